/-
  Texts: App.
-/
import Derived.Test.YtpbbemmjodegkaaDoorXk22
import Derived.Test.YtpbbemmjodegkaaDoorXk2
set_option linter.unusedSimpArgs false
set_option linter.unusedVariables false
namespace Go.Proofs.YtpbbemmjodegkaaDoor
open Go.RowKit

theorem kept_t {m : MoveV} (hk : keptB m = true) (w : World) : Calls Tryd.prog 27 #[.agg #[.int .i64 m.p, .int .i64 m.why, .int .i64 m.k, .int .i64 m.id, .int .i64 m.to, .int .u64 m.at_]] w fun e w' => e = .returned (.bool true) ∧ Below w.heap.size w w' := by
  have h := kept_any m w
  rw [hk] at h
  exact h
theorem kept_f {m : MoveV} (hk : keptB m = false) (w : World) : Calls Tryd.prog 27 #[.agg #[.int .i64 m.p, .int .i64 m.why, .int .i64 m.k, .int .i64 m.id, .int .i64 m.to, .int .u64 m.at_]] w fun e w' => e = .returned (.bool false) ∧ Below w.heap.size w w' := by
  have h := kept_any m w
  rw [hk] at h
  exact h

set_option maxRecDepth 100000 in
set_option maxHeartbeats 1600000 in
theorem app_bad (B p : Nat) (q : St) (x : RpC) (m : MoveV) (w : World) (h : Rp w B p q x) (hf : keptB m = false ∨ m.at_ < q.last) : Calls Tryd.prog 12 #[.pointer (some ⟨p, 0, none⟩), .agg #[.int .i64 m.p, .int .i64 m.why, .int .i64 m.k, .int .i64 m.id, .int .i64 m.to, .int .u64 m.at_]] w fun e w' => e = .returned (.int .i64 2) ∧ Below w.heap.size w w' := by
  have HRL : Hid (∀ s : Later (w.heap.size + 1) (w.alloc (.cells #[.int .i64 m.p, .int .i64 m.why, .int .i64 m.k, .int .i64 m.id, .int .i64 m.to, .int .u64 m.at_] 55)), Rp s.W B p q x) := Lib.hid fun s => h.below (Below.trans (by (focus (repeat' (first | (with_reducible exact Below.refl _ _) | (with_reducible assumption) | (with_reducible refine Below.alloc ?_ ?_ _) | (with_reducible refine below_drewN ?_ _) | (with_reducible refine Below.drew ?_) | (with_reducible refine Below.setCell ?_ ?_ _) | omega | (simp; done) | (simp; omega))))) (s.h.mono (by omega)))
  have hb1 : Blk (w.alloc (.cells #[.int .i64 m.p, .int .i64 m.why, .int .i64 m.k, .int .i64 m.id, .int .i64 m.to, .int .u64 m.at_] 55)) w.heap.size 55 #[.int .i64 m.p, .int .i64 m.why, .int .i64 m.k, .int .i64 m.id, .int .i64 m.to, .int .u64 m.at_] := Blk.mk_ w 55 _ _ rfl
  have c0 : ∀ s : Later (w.heap.size + 1) (w.alloc (.cells #[.int .i64 m.p, .int .i64 m.why, .int .i64 m.k, .int .i64 m.id, .int .i64 m.to, .int .u64 m.at_] 55)), s.W.cell? ⟨w.heap.size, 0, none⟩ = some (.int .i64 m.p) := fun s => ((hb1.below s.h (by omega)).at_ 0).trans rfl
  have c1 : ∀ s : Later (w.heap.size + 1) (w.alloc (.cells #[.int .i64 m.p, .int .i64 m.why, .int .i64 m.k, .int .i64 m.id, .int .i64 m.to, .int .u64 m.at_] 55)), s.W.cell? ⟨w.heap.size, 1, none⟩ = some (.int .i64 m.why) := fun s => ((hb1.below s.h (by omega)).at_ 1).trans rfl
  have c2 : ∀ s : Later (w.heap.size + 1) (w.alloc (.cells #[.int .i64 m.p, .int .i64 m.why, .int .i64 m.k, .int .i64 m.id, .int .i64 m.to, .int .u64 m.at_] 55)), s.W.cell? ⟨w.heap.size, 2, none⟩ = some (.int .i64 m.k) := fun s => ((hb1.below s.h (by omega)).at_ 2).trans rfl
  have c3 : ∀ s : Later (w.heap.size + 1) (w.alloc (.cells #[.int .i64 m.p, .int .i64 m.why, .int .i64 m.k, .int .i64 m.id, .int .i64 m.to, .int .u64 m.at_] 55)), s.W.cell? ⟨w.heap.size, 3, none⟩ = some (.int .i64 m.id) := fun s => ((hb1.below s.h (by omega)).at_ 3).trans rfl
  have c4 : ∀ s : Later (w.heap.size + 1) (w.alloc (.cells #[.int .i64 m.p, .int .i64 m.why, .int .i64 m.k, .int .i64 m.id, .int .i64 m.to, .int .u64 m.at_] 55)), s.W.cell? ⟨w.heap.size, 4, none⟩ = some (.int .i64 m.to) := fun s => ((hb1.below s.h (by omega)).at_ 4).trans rfl
  have c5 : ∀ s : Later (w.heap.size + 1) (w.alloc (.cells #[.int .i64 m.p, .int .i64 m.why, .int .i64 m.k, .int .i64 m.id, .int .i64 m.to, .int .u64 m.at_] 55)), s.W.cell? ⟨w.heap.size, 5, none⟩ = some (.int .u64 m.at_) := fun s => ((hb1.below s.h (by omega)).at_ 5).trans rfl
  clear h hb1
  cases hk : keptB m with
  | false =>
    have HK := Lib.hid hk
    clear hk hf
    go_enter Tryd.func12, Tryd.ntmps12
    go_wp2
    refine wp_region_later (B := w.heap.size + 1) (w0 := w.alloc (.cells #[.int .i64 m.p, .int .i64 m.why, .int .i64 m.k, .int .i64 m.id, .int .i64 m.to, .int .u64 m.at_] 55)) (Below.refl _ _) (by kernel_rfl) (by kernel_rfl) ?_
    repeat (go_big_quiet_step ((first
      | (go_at_call 27; with_reducible exact Calls.later (by simp) (kept_f HK.out _))
      | (go_at_call 28; with_reducible exact Calls.later (by simp) (last_any B p q x _ (HRL.out _))))))
    refine wpQuiet_nil ?_
    intro _ hw'
    obtain ⟨s, hw2⟩ := hw'
    subst hw2
    obtain ⟨w2, hb2⟩ := s
    clear c0 c1 c2 c3 c4 c5 HRL
    go_wp2
    go_ret
    exact ⟨rfl, Below.trans (by (focus (repeat' (first | (with_reducible exact Below.refl _ _) | (with_reducible assumption) | (with_reducible refine Below.alloc ?_ ?_ _) | (with_reducible refine below_drewN ?_ _) | (with_reducible refine Below.drew ?_) | (with_reducible refine Below.setCell ?_ ?_ _) | omega | (simp; done) | (simp; omega))))) (hb2.mono (by omega))⟩
  | true =>
    have hlt : m.at_ < q.last := by
      rcases hf with hf | hf
      · rw [hk] at hf; cases hf
      · exact hf
    have HK := Lib.hid hk
    clear hk hf
    go_enter Tryd.func12, Tryd.ntmps12
    go_wp2
    refine wp_region_later (B := w.heap.size + 1) (w0 := w.alloc (.cells #[.int .i64 m.p, .int .i64 m.why, .int .i64 m.k, .int .i64 m.id, .int .i64 m.to, .int .u64 m.at_] 55)) (Below.refl _ _) (by kernel_rfl) (by kernel_rfl) ?_
    repeat (go_big_quiet_step ((first
      | (go_at_call 27; with_reducible exact Calls.later (by simp) (kept_t HK.out _))
      | (go_at_call 28; with_reducible exact Calls.later (by simp) (last_any B p q x _ (HRL.out _))))))
    refine wpQuiet_nil ?_
    intro _ hw'
    obtain ⟨s, hw2⟩ := hw'
    subst hw2
    obtain ⟨w2, hb2⟩ := s
    clear c0 c1 c2 c3 c4 c5 HRL
    go_wp2
    go_ret
    exact ⟨rfl, Below.trans (by (focus (repeat' (first | (with_reducible exact Below.refl _ _) | (with_reducible assumption) | (with_reducible refine Below.alloc ?_ ?_ _) | (with_reducible refine below_drewN ?_ _) | (with_reducible refine Below.drew ?_) | (with_reducible refine Below.setCell ?_ ?_ _) | omega | (simp; done) | (simp; omega))))) (hb2.mono (by omega))⟩

set_option maxRecDepth 100000 in
set_option maxHeartbeats 1600000 in
theorem app_full (B p : Nat) (q : St) (x : RpC) (m : MoveV) (w : World) (h : Rp w B p q x) (hf : fits q m) (hc : ¬ q.mv.length < 4096) : Calls Tryd.prog 12 #[.pointer (some ⟨p, 0, none⟩), .agg #[.int .i64 m.p, .int .i64 m.why, .int .i64 m.k, .int .i64 m.id, .int .i64 m.to, .int .u64 m.at_]] w fun e w' => e = .returned (.int .i64 7) ∧ Below w.heap.size w w' := by
  have HRL : Hid (∀ s : Later (w.heap.size + 1) (w.alloc (.cells #[.int .i64 m.p, .int .i64 m.why, .int .i64 m.k, .int .i64 m.id, .int .i64 m.to, .int .u64 m.at_] 55)), Rp s.W B p q x) := Lib.hid fun s => h.below (Below.trans (by (focus (repeat' (first | (with_reducible exact Below.refl _ _) | (with_reducible assumption) | (with_reducible refine Below.alloc ?_ ?_ _) | (with_reducible refine below_drewN ?_ _) | (with_reducible refine Below.drew ?_) | (with_reducible refine Below.setCell ?_ ?_ _) | omega | (simp; done) | (simp; omega))))) (s.h.mono (by omega)))
  have hb1 : Blk (w.alloc (.cells #[.int .i64 m.p, .int .i64 m.why, .int .i64 m.k, .int .i64 m.id, .int .i64 m.to, .int .u64 m.at_] 55)) w.heap.size 55 #[.int .i64 m.p, .int .i64 m.why, .int .i64 m.k, .int .i64 m.id, .int .i64 m.to, .int .u64 m.at_] := Blk.mk_ w 55 _ _ rfl
  have c0 : ∀ s : Later (w.heap.size + 1) (w.alloc (.cells #[.int .i64 m.p, .int .i64 m.why, .int .i64 m.k, .int .i64 m.id, .int .i64 m.to, .int .u64 m.at_] 55)), s.W.cell? ⟨w.heap.size, 0, none⟩ = some (.int .i64 m.p) := fun s => ((hb1.below s.h (by omega)).at_ 0).trans rfl
  have c1 : ∀ s : Later (w.heap.size + 1) (w.alloc (.cells #[.int .i64 m.p, .int .i64 m.why, .int .i64 m.k, .int .i64 m.id, .int .i64 m.to, .int .u64 m.at_] 55)), s.W.cell? ⟨w.heap.size, 1, none⟩ = some (.int .i64 m.why) := fun s => ((hb1.below s.h (by omega)).at_ 1).trans rfl
  have c2 : ∀ s : Later (w.heap.size + 1) (w.alloc (.cells #[.int .i64 m.p, .int .i64 m.why, .int .i64 m.k, .int .i64 m.id, .int .i64 m.to, .int .u64 m.at_] 55)), s.W.cell? ⟨w.heap.size, 2, none⟩ = some (.int .i64 m.k) := fun s => ((hb1.below s.h (by omega)).at_ 2).trans rfl
  have c3 : ∀ s : Later (w.heap.size + 1) (w.alloc (.cells #[.int .i64 m.p, .int .i64 m.why, .int .i64 m.k, .int .i64 m.id, .int .i64 m.to, .int .u64 m.at_] 55)), s.W.cell? ⟨w.heap.size, 3, none⟩ = some (.int .i64 m.id) := fun s => ((hb1.below s.h (by omega)).at_ 3).trans rfl
  have c4 : ∀ s : Later (w.heap.size + 1) (w.alloc (.cells #[.int .i64 m.p, .int .i64 m.why, .int .i64 m.k, .int .i64 m.id, .int .i64 m.to, .int .u64 m.at_] 55)), s.W.cell? ⟨w.heap.size, 4, none⟩ = some (.int .i64 m.to) := fun s => ((hb1.below s.h (by omega)).at_ 4).trans rfl
  have c5 : ∀ s : Later (w.heap.size + 1) (w.alloc (.cells #[.int .i64 m.p, .int .i64 m.why, .int .i64 m.k, .int .i64 m.id, .int .i64 m.to, .int .u64 m.at_] 55)), s.W.cell? ⟨w.heap.size, 5, none⟩ = some (.int .u64 m.at_) := fun s => ((hb1.below s.h (by omega)).at_ 5).trans rfl
  have hn := h.nm_eq
  have x3 := fun W (hb : Below w.heap.size w W) => ((h.below hb).blk.at_ 3).trans rfl
  have X3 := Lib.hid x3
  obtain ⟨hk, hlt, _⟩ := hf
  have HK := Lib.hid hk
  have hnm : (4096 : Int) ≤ x.nm := by omega
  clear h hb1 hk x3 hn
  go_enter Tryd.func12, Tryd.ntmps12
  go_wp2
  refine wp_region_later (B := w.heap.size + 1) (w0 := w.alloc (.cells #[.int .i64 m.p, .int .i64 m.why, .int .i64 m.k, .int .i64 m.id, .int .i64 m.to, .int .u64 m.at_] 55)) (Below.refl _ _) (by kernel_rfl) (by kernel_rfl) ?_
  repeat (go_big_quiet_step ((first
    | (go_at_call 27; with_reducible exact Calls.later (by simp) (kept_t HK.out _))
    | (go_at_call 28; with_reducible exact Calls.later (by simp) (last_any B p q x _ (HRL.out _))))))
  refine wpQuiet_nil ?_
  intro _ hw'
  obtain ⟨s, hw2⟩ := hw'
  subst hw2
  obtain ⟨w2, hb2⟩ := s
  clear c0 c1 c2 c3 c4 c5 HRL
  have hB2 : Below w.heap.size w w2 := Below.trans (by (focus (repeat' (first | (with_reducible exact Below.refl _ _) | (with_reducible assumption) | (with_reducible refine Below.alloc ?_ ?_ _) | (with_reducible refine below_drewN ?_ _) | (with_reducible refine Below.drew ?_) | (with_reducible refine Below.setCell ?_ ?_ _) | omega | (simp; done) | (simp; omega))))) (hb2.mono (by omega))
  have x3 := X3.out w2 hB2
  go_wp2
  go_ret
  exact ⟨rfl, hB2⟩

def Foot (p : Nat) (x : RpC) (i : Nat) : Prop := i = p ∨ blkOf x.A = some i ∨ blkOf x.E = some i ∨ blkOf x.M = some i
theorem Rp.foot {w : World} {B p : Nat} {q : St} {x : RpC} (h : Rp w B p q x) : ∀ i, Foot p x i → B ≤ i ∧ i < w.heap.size := by
  rintro i (rfl | hi | hi | hi)
  · exact ⟨h.base, h.blk.lt⟩
  · exact h.data.lt i hi
  · exact h.ends.lt i hi
  · exact h.mv.lt i hi

structure Mid (w W : World) (B p g : Nat) (F : Nat → Prop) (cs ms : Array Value) (D : Option Addr) (dn dc : Nat) (ds : List Value) (E : Option Addr) (en ec : Nat) (es : List Value) (M : Option Addr) (mn mc : Nat) (mss : List Value) : Prop where
  P : Blk W p 85 cs
  G : Blk W g 55 ms
  D : XOwns W B 5 1 D dn dc ds
  E : XOwns W B 3 1 E en ec es
  M : XOwns W B 55 6 M mn mc mss
  O : OnlyF F w W
section
variable {w W W' : World} {B p g : Nat} {F : Nat → Prop} {cs ms : Array Value} {D : Option Addr} {dn dc : Nat} {ds : List Value} {E E' : Option Addr} {en ec en' ec' : Nat} {es es' : List Value} {M M' : Option Addr} {mn mc mn' mc' : Nat} {mss mss' : List Value}
theorem Mid.below (h : Mid w W B p g F cs ms D dn dc ds E en ec es M mn mc mss) (hb : Below W.heap.size W W') : Mid w W' B p g F cs ms D dn dc ds E en ec es M mn mc mss :=
  ⟨h.P.call hb, h.G.call hb, h.D.below hb, h.E.below hb, h.M.below hb, h.O.trans (OnlyF.of_below (F := fun _ => False) hb) (fun _ hf => hf.elim)⟩
theorem Mid.alloc (h : Mid w W B p g F cs ms D dn dc ds E en ec es M mn mc mss) (o : Obj) : Mid w (W.alloc o) B p g F cs ms D dn dc ds E en ec es M mn mc mss := h.below ((Below.refl _ _).alloc (Nat.le_refl _) _)
theorem Mid.drew (h : Mid w W B p g F cs ms D dn dc ds E en ec es M mn mc mss) : Mid w W.drew B p g F cs ms D dn dc ds E en ec es M mn mc mss := h.below ((Below.refl _ _).drew)
theorem Mid.appE (h : Mid w W B p g F cs ms D dn dc ds E en ec es M mn mc mss) (hg : W.grownBy W' (blkOf E)) (hE : XOwns W' B 3 1 E' en' ec' es') (hF : ∀ i, blkOf E = some i → F i) : Mid w W' B p g F cs ms D dn dc ds E' en' ec' es' M mn mc mss :=
  ⟨h.P.grown hg (Ne.symm (h.E.apart_blk h.P (by decide))), h.G.grown hg (Ne.symm (h.E.apart_blk h.G (by decide))), h.D.grown hg (h.D.apart h.E (by decide)), hE, h.M.grown hg (h.M.apart h.E (by decide)),
    h.O.trans (OnlyF.of_grown (F := F) hg hF) (fun _ hf _ => hf)⟩
theorem Mid.appM (h : Mid w W B p g F cs ms D dn dc ds E en ec es M mn mc mss) (hg : W.grownBy W' (blkOf M)) (hM : XOwns W' B 55 6 M' mn' mc' mss') (hF : ∀ i, blkOf M = some i → F i) (hgM : blkOf M ≠ some g) : Mid w W' B p g F cs ms D dn dc ds E en ec es M' mn' mc' mss' :=
  ⟨h.P.grown hg (Ne.symm (h.M.apart_blk h.P (by decide))), h.G.grown hg (Ne.symm hgM), h.D.grown hg (h.D.apart h.M (by decide)), h.E.grown hg (h.E.apart h.M (by decide)), hM,
    h.O.trans (OnlyF.of_grown (F := F) hg hF) (fun _ hf _ => hf)⟩
theorem Mid.put (h : Mid w W B p g F cs ms D dn dc ds E en ec es M mn mc mss) (i : Nat) (u : Value) (hp : F p) (hgp : g ≠ p) : Mid w (W.setCell ⟨p, i, none⟩ u) B p g F (cs.setIfInBounds i u) ms D dn dc ds E en ec es M mn mc mss :=
  ⟨h.P.put i u, h.G.far hgp u, h.D.put (h.D.apart_blk h.P (by decide)), h.E.put (h.E.apart_blk h.P (by decide)), h.M.put (h.M.apart_blk h.P (by decide)), h.O.put (.inl hp) u⟩
end
theorem app_end {w W : World} {B p g : Nat} {q : St} {x : RpC} {m : MoveV} {ms : Array Value} {g4 dn c4 gE cE gM cM : Nat} (h : Rp w B p q x) (hf : fits q m) (hc : q.mv.length < 4096) (hdn : x.n + (recS q.last q.sum m).length = dn)
    (i4 : blkOf x.A = some g4 ∨ w.heap.size ≤ g4) (iE : blkOf x.E = some gE ∨ w.heap.size ≤ gE) (iM : blkOf x.M = some gM ∨ w.heap.size ≤ gM)
    (H : Mid w W B p g (Foot p x) #[.int .u32 q.key, .slice (some ⟨g4, 0, none⟩) dn c4, .slice (some ⟨gE, 0, none⟩) (x.ne + 1) cE, .slice (some ⟨gM, 0, none⟩) (x.nm + 1) cM] ms (some ⟨g4, 0, none⟩) dn c4 (bys q.data ++ bys (recS q.last q.sum m))
      (some ⟨gE, 0, none⟩) (x.ne + 1) cE (q.ends.map (Value.int .i64) ++ [Value.int .i64 dn]) (some ⟨gM, 0, none⟩) (x.nm + 1) cM (mcells q.mv ++ m.cells)) :
    ∃ x', Ending.returned (Value.int .i64 0) = Ending.returned (Value.int .i64 0) ∧ Rp W B p (q.add m) x' ∧ OnlyF (Foot p x) w W ∧ ∀ i, Foot p x' i → Foot p x i ∨ w.heap.size ≤ i := by
  refine ⟨⟨some ⟨g4, 0, none⟩, dn, c4, some ⟨gE, 0, none⟩, x.ne + 1, cE, some ⟨gM, 0, none⟩, x.nm + 1, cM⟩, rfl, ⟨H.P, h.base, ?_, ?_, ?_, h.ok.add hf hc⟩, H.O, ?_⟩
  · have := H.D
    rw [show bys q.data ++ bys (recS q.last q.sum m) = bys (q.add m).data by simp [bys, St.add]] at this
    exact this
  · have := H.E
    rw [show q.ends.map (Value.int .i64) ++ [Value.int .i64 dn] = (q.add m).ends.map (Value.int .i64) by
      simp only [St.add, List.map_append, List.map_cons, List.map_nil, List.length_append]
      rw [← hdn, h.n_eq]] at this
    exact this
  · have := H.M
    rw [← mcells_snoc] at this
    exact this
  · rintro i (rfl | hi | hi | hi)
    · exact .inl (.inl rfl)
    · injection hi with hi
      subst hi
      exact i4.imp (fun h => .inr (.inl h)) id
    · injection hi with hi
      subst hi
      exact iE.imp (fun h => .inr (.inr (.inl h))) id
    · injection hi with hi
      subst hi
      exact iM.imp (fun h => .inr (.inr (.inr h))) id
theorem Tryd.info3 : (Tryd.prog.info? 3).map (fun i => (i.zero, i.size, i.bytes)) = some (some (.int .i64 0), 1, 8) := by kernel_rfl
theorem Tryd.info55 : (Tryd.prog.info? 55).map (fun i => (i.zero, i.size, i.bytes)) = some (some (.agg #[.int .i64 0, .int .i64 0, .int .i64 0, .int .i64 0, .int .i64 0, .int .u64 0]), 6, 48) := by kernel_rfl

set_option maxRecDepth 100000 in
set_option maxHeartbeats 3200000 in
theorem app_ok (B p : Nat) (q : St) (x : RpC) (m : MoveV) (w : World) (h : Rp w B p q x) (hf : fits q m) (hc : q.mv.length < 4096) : Calls Tryd.prog 12 #[.pointer (some ⟨p, 0, none⟩), .agg #[.int .i64 m.p, .int .i64 m.why, .int .i64 m.k, .int .i64 m.id, .int .i64 m.to, .int .u64 m.at_]] w fun e w' => ∃ x', e = .returned (.int .i64 0) ∧ Rp w' B p (q.add m) x' ∧ OnlyF (Foot p x) w w' ∧ ∀ i, Foot p x' i → Foot p x i ∨ w.heap.size ≤ i := by
  have HRL : Hid (∀ s : Later (w.heap.size + 1) (w.alloc (.cells #[.int .i64 m.p, .int .i64 m.why, .int .i64 m.k, .int .i64 m.id, .int .i64 m.to, .int .u64 m.at_] 55)), Rp s.W B p q x) := Lib.hid fun s => h.below (Below.trans (by (focus (repeat' (first | (with_reducible exact Below.refl _ _) | (with_reducible assumption) | (with_reducible refine Below.alloc ?_ ?_ _) | (with_reducible refine below_drewN ?_ _) | (with_reducible refine Below.drew ?_) | (with_reducible refine Below.setCell ?_ ?_ _) | omega | (simp; done) | (simp; omega))))) (s.h.mono (by omega)))
  have hb1 : Blk (w.alloc (.cells #[.int .i64 m.p, .int .i64 m.why, .int .i64 m.k, .int .i64 m.id, .int .i64 m.to, .int .u64 m.at_] 55)) w.heap.size 55 #[.int .i64 m.p, .int .i64 m.why, .int .i64 m.k, .int .i64 m.id, .int .i64 m.to, .int .u64 m.at_] := Blk.mk_ w 55 _ _ rfl
  have c0 : ∀ s : Later (w.heap.size + 1) (w.alloc (.cells #[.int .i64 m.p, .int .i64 m.why, .int .i64 m.k, .int .i64 m.id, .int .i64 m.to, .int .u64 m.at_] 55)), s.W.cell? ⟨w.heap.size, 0, none⟩ = some (.int .i64 m.p) := fun s => ((hb1.below s.h (by omega)).at_ 0).trans rfl
  have c1 : ∀ s : Later (w.heap.size + 1) (w.alloc (.cells #[.int .i64 m.p, .int .i64 m.why, .int .i64 m.k, .int .i64 m.id, .int .i64 m.to, .int .u64 m.at_] 55)), s.W.cell? ⟨w.heap.size, 1, none⟩ = some (.int .i64 m.why) := fun s => ((hb1.below s.h (by omega)).at_ 1).trans rfl
  have c2 : ∀ s : Later (w.heap.size + 1) (w.alloc (.cells #[.int .i64 m.p, .int .i64 m.why, .int .i64 m.k, .int .i64 m.id, .int .i64 m.to, .int .u64 m.at_] 55)), s.W.cell? ⟨w.heap.size, 2, none⟩ = some (.int .i64 m.k) := fun s => ((hb1.below s.h (by omega)).at_ 2).trans rfl
  have c3 : ∀ s : Later (w.heap.size + 1) (w.alloc (.cells #[.int .i64 m.p, .int .i64 m.why, .int .i64 m.k, .int .i64 m.id, .int .i64 m.to, .int .u64 m.at_] 55)), s.W.cell? ⟨w.heap.size, 3, none⟩ = some (.int .i64 m.id) := fun s => ((hb1.below s.h (by omega)).at_ 3).trans rfl
  have c4 : ∀ s : Later (w.heap.size + 1) (w.alloc (.cells #[.int .i64 m.p, .int .i64 m.why, .int .i64 m.k, .int .i64 m.id, .int .i64 m.to, .int .u64 m.at_] 55)), s.W.cell? ⟨w.heap.size, 4, none⟩ = some (.int .i64 m.to) := fun s => ((hb1.below s.h (by omega)).at_ 4).trans rfl
  have c5 : ∀ s : Later (w.heap.size + 1) (w.alloc (.cells #[.int .i64 m.p, .int .i64 m.why, .int .i64 m.k, .int .i64 m.id, .int .i64 m.to, .int .u64 m.at_] 55)), s.W.cell? ⟨w.heap.size, 5, none⟩ = some (.int .u64 m.at_) := fun s => ((hb1.below s.h (by omega)).at_ 5).trans rfl
  have HR := Lib.hid h
  have HRB : Hid (∀ W, Below w.heap.size w W → Rp W B p q x) := Lib.hid fun W hb => h.below hb
  have hn := h.nm_eq
  have x3 := fun W (hb : Below w.heap.size w W) => ((h.below hb).blk.at_ 3).trans rfl
  have X3 := Lib.hid x3
  have HF := Lib.hid hf
  obtain ⟨hk, hlt, _⟩ := hf
  have HK := Lib.hid hk
  have hnm : (x.nm : Int) < 4096 := by omega
  have hpw := h.blk.lt
  have hBp := h.base
  have HG0 : Hid (blkOf x.M ≠ some w.heap.size) := Lib.hid (fun he => by have := h.mv.lt _ he; omega)
  clear h hb1 hk x3 hn
  go_enter Tryd.func12, Tryd.ntmps12
  go_wp2
  refine wp_region_later (B := w.heap.size + 1) (w0 := w.alloc (.cells #[.int .i64 m.p, .int .i64 m.why, .int .i64 m.k, .int .i64 m.id, .int .i64 m.to, .int .u64 m.at_] 55)) (Below.refl _ _) (by kernel_rfl) (by kernel_rfl) ?_
  repeat (go_big_quiet_step ((first
    | (go_at_call 27; with_reducible exact Calls.later (by simp) (kept_t HK.out _))
    | (go_at_call 28; with_reducible exact Calls.later (by simp) (last_any B p q x _ (HRL.out _))))))
  refine wpQuiet_nil ?_
  intro _ hw'
  obtain ⟨s, hw2⟩ := hw'
  subst hw2
  obtain ⟨w2, hb2⟩ := s
  have hk2 : Blk w2 w.heap.size 55 #[.int .i64 m.p, .int .i64 m.why, .int .i64 m.k, .int .i64 m.id, .int .i64 m.to, .int .u64 m.at_] := (Blk.mk_ w 55 _ _ rfl).below hb2 (by omega)
  have hz2 := hb2.size
  simp only [World.size_alloc] at hz2
  clear c0 c1 c2 c3 c4 c5 HRL
  have hB2 : Below w.heap.size w w2 := Below.trans (by (focus (repeat' (first | (with_reducible exact Below.refl _ _) | (with_reducible assumption) | (with_reducible refine Below.alloc ?_ ?_ _) | (with_reducible refine below_drewN ?_ _) | (with_reducible refine Below.drew ?_) | (with_reducible refine Below.setCell ?_ ?_ _) | omega | (simp; done) | (simp; omega))))) (hb2.mono (by omega))
  have x3 := X3.out w2 hB2
  go_wp2
  clear x3
  have H2 := HRB.out w2 hB2
  have HN2 := Lib.hid H2.n_eq
  have HNM := Lib.hid H2.nm_eq
  have HNE := Lib.hid H2.ne_eq
  have hdl := H2.ok.len
  have hcn := H2.ok.cnt
  have hd2 := Lib.hid H2.data
  have hrl := hdr_le HF.out.1 H2.ok.last0.1 HF.out.2.2
  have HR2 := Lib.hid (rec_len q.last q.sum m)
  have HB2 := Lib.hid H2.blk
  have hzB : B ≤ w2.heap.size := by have := H2.blk.lt; omega
  have hgp : w.heap.size ≠ p := by omega
  have hNE : Nonempty (In (fun W => Blk W p 85 #[.int .u32 q.key, .slice x.A x.n x.c, .slice x.E x.ne x.ce, .slice x.M x.nm x.cm] ∧ Blk W w.heap.size 55 #[.int .i64 m.p, .int .i64 m.why, .int .i64 m.k, .int .i64 m.id, .int .i64 m.to, .int .u64 m.at_])) := ⟨⟨_, H2.blk, hk2⟩⟩
  have e1 : ∀ s : In (fun W => Blk W p 85 #[.int .u32 q.key, .slice x.A x.n x.c, .slice x.E x.ne x.ce, .slice x.M x.nm x.cm] ∧ Blk W w.heap.size 55 #[.int .i64 m.p, .int .i64 m.why, .int .i64 m.k, .int .i64 m.id, .int .i64 m.to, .int .u64 m.at_]), s.W.cell? ⟨p, 1, none⟩ = some (.slice x.A x.n x.c) := fun s => (s.h.1.at_ 1).trans rfl
  have c0 : ∀ s : In (fun W => Blk W p 85 #[.int .u32 q.key, .slice x.A x.n x.c, .slice x.E x.ne x.ce, .slice x.M x.nm x.cm] ∧ Blk W w.heap.size 55 #[.int .i64 m.p, .int .i64 m.why, .int .i64 m.k, .int .i64 m.id, .int .i64 m.to, .int .u64 m.at_]), s.W.cell? ⟨w.heap.size, 0, none⟩ = some (.int .i64 m.p) := fun s => (s.h.2.at_ 0).trans rfl
  have c1 : ∀ s : In (fun W => Blk W p 85 #[.int .u32 q.key, .slice x.A x.n x.c, .slice x.E x.ne x.ce, .slice x.M x.nm x.cm] ∧ Blk W w.heap.size 55 #[.int .i64 m.p, .int .i64 m.why, .int .i64 m.k, .int .i64 m.id, .int .i64 m.to, .int .u64 m.at_]), s.W.cell? ⟨w.heap.size, 1, none⟩ = some (.int .i64 m.why) := fun s => (s.h.2.at_ 1).trans rfl
  have c2 : ∀ s : In (fun W => Blk W p 85 #[.int .u32 q.key, .slice x.A x.n x.c, .slice x.E x.ne x.ce, .slice x.M x.nm x.cm] ∧ Blk W w.heap.size 55 #[.int .i64 m.p, .int .i64 m.why, .int .i64 m.k, .int .i64 m.id, .int .i64 m.to, .int .u64 m.at_]), s.W.cell? ⟨w.heap.size, 2, none⟩ = some (.int .i64 m.k) := fun s => (s.h.2.at_ 2).trans rfl
  have c3 : ∀ s : In (fun W => Blk W p 85 #[.int .u32 q.key, .slice x.A x.n x.c, .slice x.E x.ne x.ce, .slice x.M x.nm x.cm] ∧ Blk W w.heap.size 55 #[.int .i64 m.p, .int .i64 m.why, .int .i64 m.k, .int .i64 m.id, .int .i64 m.to, .int .u64 m.at_]), s.W.cell? ⟨w.heap.size, 3, none⟩ = some (.int .i64 m.id) := fun s => (s.h.2.at_ 3).trans rfl
  have c4_ : ∀ s : In (fun W => Blk W p 85 #[.int .u32 q.key, .slice x.A x.n x.c, .slice x.E x.ne x.ce, .slice x.M x.nm x.cm] ∧ Blk W w.heap.size 55 #[.int .i64 m.p, .int .i64 m.why, .int .i64 m.k, .int .i64 m.id, .int .i64 m.to, .int .u64 m.at_]), s.W.cell? ⟨w.heap.size, 4, none⟩ = some (.int .i64 m.to) := fun s => (s.h.2.at_ 4).trans rfl
  have c5 : ∀ s : In (fun W => Blk W p 85 #[.int .u32 q.key, .slice x.A x.n x.c, .slice x.E x.ne x.ce, .slice x.M x.nm x.cm] ∧ Blk W w.heap.size 55 #[.int .i64 m.p, .int .i64 m.why, .int .i64 m.k, .int .i64 m.id, .int .i64 m.to, .int .u64 m.at_]), s.W.cell? ⟨w.heap.size, 5, none⟩ = some (.int .u64 m.at_) := fun s => (s.h.2.at_ 5).trans rfl
  clear H2
  refine wp_region_late (Ph (fun w' => ∃ s : In (fun W => Blk W p 85 #[.int .u32 q.key, .slice x.A x.n x.c, .slice x.E x.ne x.ce, .slice x.M x.nm x.cm] ∧ Blk W w.heap.size 55 #[.int .i64 m.p, .int .i64 m.why, .int .i64 m.k, .int .i64 m.id, .int .i64 m.to, .int .u64 m.at_]), w' = s.W) (fun _ => True)) [11] [0,1,2,3,4,5,6] (.one 7 [] (.one 8 [9,10] (.one 11 [] .done))) (by kernel_rfl) (by kernel_rfl) (fun d _ _ _ _ h => by cases d <;> exact h) ⟨⟨_, HB2.out.drew, hk2.drew⟩, rfl⟩ ?_
  refine quiet_as (C' := fun w' => ∃ s : In (fun W => Blk W p 85 #[.int .u32 q.key, .slice x.A x.n x.c, .slice x.E x.ne x.ce, .slice x.M x.nm x.cm] ∧ Blk W w.heap.size 55 #[.int .i64 m.p, .int .i64 m.why, .int .i64 m.k, .int .i64 m.id, .int .i64 m.to, .int .u64 m.at_]), w' = s.W) rfl ?_
  simp only [opsAt, List.getElem?_toArray, List.getElem?_cons_succ, List.getElem?_cons_zero]
  repeat (go_big_quiet_step (fail))
  refine wpQuiet_nil ?_
  refine eff_as (C' := fun w' => ∃ s : In (fun W => Blk W p 85 #[.int .u32 q.key, .slice x.A x.n x.c, .slice x.E x.ne x.ce, .slice x.M x.nm x.cm] ∧ Blk W w.heap.size 55 #[.int .i64 m.p, .int .i64 m.why, .int .i64 m.k, .int .i64 m.id, .int .i64 m.to, .int .u64 m.at_]), w' = s.W) rfl ?_
  (refine eff_lit rfl rfl (fun K hK => ?_))
  go_big_op
  refine (rec_any B p q x m _ (HRB.out _ (by (focus (repeat' (first | (with_reducible exact Below.refl _ _) | (with_reducible assumption) | (with_reducible refine Below.alloc ?_ ?_ _) | (with_reducible refine below_drewN ?_ _) | (with_reducible refine Below.drew ?_) | (with_reducible refine Below.setCell ?_ ?_ _) | omega | (simp; done) | (simp; omega)))))) HF.out).mono ?_
  rintro e w3 ⟨A3, cc3, rfl, ho3, hb3⟩
  have hb3' : Below w2.heap.size w2 w3 := Below.trans (by (focus (repeat' (first | (with_reducible exact Below.refl _ _) | (with_reducible assumption) | (with_reducible refine Below.alloc ?_ ?_ _) | (with_reducible refine below_drewN ?_ _) | (with_reducible refine Below.drew ?_) | (with_reducible refine Below.setCell ?_ ?_ _) | omega | (simp; done) | (simp; omega))))) (hb3.mono (by (focus (first | omega | (simp only [World.size_alloc]; done) | (simp only [World.size_alloc]; omega) | (simp; done) | (simp; omega)))))
  refine hK _ _ ⟨⟨_, HB2.out.call hb3', hk2.call hb3'⟩, rfl⟩ ?_
  clear hK K
  simp only [opsAt, List.getElem?_toArray, List.getElem?_cons_succ, List.getElem?_cons_zero]
  refine wpQuiet_nil ?_
  refine eff_as (C' := fun w' => ∃ s : In (fun W => Blk W p 85 #[.int .u32 q.key, .slice x.A x.n x.c, .slice x.E x.ne x.ce, .slice x.M x.nm x.cm] ∧ Blk W w.heap.size 55 #[.int .i64 m.p, .int .i64 m.why, .int .i64 m.k, .int .i64 m.id, .int .i64 m.to, .int .u64 m.at_]), w' = s.W) rfl ?_
  (refine eff_lit rfl rfl (fun K hK => ?_))
  have hz3 := hb3'.size
  refine append_x_op (.tmp 30) (.tmp 33) 35 rfl B 5 (.int .u8 0) 1 1 Tryd.info5 Tryd.underlying35 rfl (by decide) x.A x.n x.c (bys q.data) ?_ (hd2.out.below hb3') A3 _ cc3 (bys (recS q.last q.sum m)) ?_ ho3.reads.1 (bys_one _) ?_ ?_ ?_ ?_ w3.heap.size rfl ?_
  · rfl
  · rfl
  · have := HR2.out; omega
  · have := HR2.out; have := HN2.out; omega
  · have := HR2.out; have := HN2.out; omega
  · omega
  intro g4 c4 w4 ho4 hg4 hi4 hlt4
  simp only [Act.put, List.setIfInBounds_toArray, List.set_cons_succ, List.set_cons_zero]
  have hneA := hd2.out.apart_blk HB2.out (by decide)
  have hneG := hd2.out.apart_blk hk2 (by decide)
  have b4 := (HB2.out.call hb3').grown hg4 (Ne.symm hneA)
  have k4 := (hk2.call hb3').grown hg4 (Ne.symm hneG)
  refine hK _ _ ⟨⟨_, b4, k4⟩, rfl⟩ ?_
  clear hK K
  simp only [opsAt, List.getElem?_toArray, List.getElem?_cons_succ, List.getElem?_cons_zero]
  repeat (go_big_quiet_step (fail))
  refine wpQuiet_nil ?_
  have H3 := HRB.out w3 (hB2.trans (hb3'.mono (by omega)))
  have M4 : Mid w w4 B p w.heap.size (Foot p x) #[.int .u32 q.key, .slice x.A x.n x.c, .slice x.E x.ne x.ce, .slice x.M x.nm x.cm] #[.int .i64 m.p, .int .i64 m.why, .int .i64 m.k, .int .i64 m.id, .int .i64 m.to, .int .u64 m.at_] (some ⟨g4, 0, none⟩) (x.n + (recS q.last q.sum m).length) c4 (bys q.data ++ bys (recS q.last q.sum m)) x.E x.ne x.ce (q.ends.map (Value.int .i64)) x.M x.nm x.cm (mcells q.mv) :=
    ⟨b4, k4, ho4, H3.ends.grown hg4 (H3.ends.apart H3.data (by decide)), H3.mv.grown hg4 (H3.mv.apart H3.data (by decide)), OnlyF.trans (OnlyF.of_below (F := Foot p x) (hB2.trans (hb3'.mono (by omega)))) (OnlyF.of_grown (F := Foot p x) hg4 (fun i hi => .inr (.inl hi))) (fun _ hf _ => hf)⟩
  have hdn : Hid (x.n + (recS q.last q.sum m).length ≤ 200000) := Lib.hid (by have := HR2.out; have := HN2.out; omega)
  generalize hdne : x.n + (recS q.last q.sum m).length = dn at *
  have HDN := Lib.hid hdne
  have M4 := Lib.hid M4
  have p1 := (b4.at_ 1).trans rfl
  have f1 := b4.free 1
  have hp4 := b4.lt
  have HI4 : Hid (blkOf x.A = some g4 ∨ w.heap.size ≤ g4) := Lib.hid (hi4.imp id (fun h => by omega))
  clear hdne ho4 hg4 hi4 H3 hneA hneG b4 k4 e1 c0 c1 c2 c3 c4_ c5
  refine eff_as (C' := fun _ => True) rfl ?_
  (refine eff_lit rfl rfl (fun K hK => ?_))
  go_big_op
  refine hK _ _ trivial ?_
  clear hK K p1 f1
  simp only [opsAt, List.getElem?_toArray, List.getElem?_cons_succ, List.getElem?_cons_zero]
  refine wpQuiet_nil ?_
  refine effs_done ?_
  --@@REGION8
  have M5 : Mid w (w4.setCell ⟨p, 1, none⟩ (.slice (some ⟨g4, 0, none⟩) dn c4)) B p w.heap.size (Foot p x) #[.int .u32 q.key, .slice (some ⟨g4, 0, none⟩) dn c4, .slice x.E x.ne x.ce, .slice x.M x.nm x.cm] #[.int .i64 m.p, .int .i64 m.why, .int .i64 m.k, .int .i64 m.id, .int .i64 m.to, .int .u64 m.at_] (some ⟨g4, 0, none⟩) dn c4 (bys q.data ++ bys (recS q.last q.sum m)) x.E x.ne x.ce (q.ends.map (Value.int .i64)) x.M x.nm x.cm (mcells q.mv) := M4.out.put 1 (.slice (some ⟨g4, 0, none⟩) dn c4) (.inl rfl) hgp
  have hzz : (w4.setCell ⟨p, 1, none⟩ (.slice (some ⟨g4, 0, none⟩) dn c4)).heap.size = w4.heap.size := by simp [World.setCell]
  have hz4 : B ≤ (w4.setCell ⟨p, 1, none⟩ (.slice (some ⟨g4, 0, none⟩) dn c4)).heap.size := by rw [hzz]; omega
  have hpp : p < (w4.setCell ⟨p, 1, none⟩ (.slice (some ⟨g4, 0, none⟩) dn c4)).heap.size := by rw [hzz]; omega
  have hw5 : w.heap.size ≤ (w4.setCell ⟨p, 1, none⟩ (.slice (some ⟨g4, 0, none⟩) dn c4)).heap.size := by rw [hzz]; exact M4.out.O.size
  clear hzz
  go_wp2
  generalize w4.setCell ⟨p, 1, none⟩ (.slice (some ⟨g4, 0, none⟩) dn c4) = w5 at *
  clear M4 hp4 hlt4 hz3 hb3' hb3 ho3 HB2 hd2 hk2 hB2 hb2 hz2 hzB
  have hNE8 : Nonempty (In (fun W => Blk W p 85 #[.int .u32 q.key, .slice (some ⟨g4, 0, none⟩) dn c4, .slice x.E x.ne x.ce, .slice x.M x.nm x.cm] ∧ Blk W w.heap.size 55 #[.int .i64 m.p, .int .i64 m.why, .int .i64 m.k, .int .i64 m.id, .int .i64 m.to, .int .u64 m.at_])) := ⟨⟨_, M5.P, M5.G⟩⟩
  have e1 : ∀ s : In (fun W => Blk W p 85 #[.int .u32 q.key, .slice (some ⟨g4, 0, none⟩) dn c4, .slice x.E x.ne x.ce, .slice x.M x.nm x.cm] ∧ Blk W w.heap.size 55 #[.int .i64 m.p, .int .i64 m.why, .int .i64 m.k, .int .i64 m.id, .int .i64 m.to, .int .u64 m.at_]), s.W.cell? ⟨p, 1, none⟩ = some (.slice (some ⟨g4, 0, none⟩) dn c4) := fun s => (s.h.1.at_ 1).trans rfl
  have e2 : ∀ s : In (fun W => Blk W p 85 #[.int .u32 q.key, .slice (some ⟨g4, 0, none⟩) dn c4, .slice x.E x.ne x.ce, .slice x.M x.nm x.cm] ∧ Blk W w.heap.size 55 #[.int .i64 m.p, .int .i64 m.why, .int .i64 m.k, .int .i64 m.id, .int .i64 m.to, .int .u64 m.at_]), s.W.cell? ⟨p, 2, none⟩ = some (.slice x.E x.ne x.ce) := fun s => (s.h.1.at_ 2).trans rfl
  have e3 : ∀ s : In (fun W => Blk W p 85 #[.int .u32 q.key, .slice (some ⟨g4, 0, none⟩) dn c4, .slice x.E x.ne x.ce, .slice x.M x.nm x.cm] ∧ Blk W w.heap.size 55 #[.int .i64 m.p, .int .i64 m.why, .int .i64 m.k, .int .i64 m.id, .int .i64 m.to, .int .u64 m.at_]), s.W.cell? ⟨p, 3, none⟩ = some (.slice x.M x.nm x.cm) := fun s => (s.h.1.at_ 3).trans rfl
  have d0 : ∀ s : In (fun W => Blk W p 85 #[.int .u32 q.key, .slice (some ⟨g4, 0, none⟩) dn c4, .slice x.E x.ne x.ce, .slice x.M x.nm x.cm] ∧ Blk W w.heap.size 55 #[.int .i64 m.p, .int .i64 m.why, .int .i64 m.k, .int .i64 m.id, .int .i64 m.to, .int .u64 m.at_]), s.W.cell? ⟨w.heap.size, 0, none⟩ = some (.int .i64 m.p) := fun s => (s.h.2.at_ 0).trans rfl
  have d1 : ∀ s : In (fun W => Blk W p 85 #[.int .u32 q.key, .slice (some ⟨g4, 0, none⟩) dn c4, .slice x.E x.ne x.ce, .slice x.M x.nm x.cm] ∧ Blk W w.heap.size 55 #[.int .i64 m.p, .int .i64 m.why, .int .i64 m.k, .int .i64 m.id, .int .i64 m.to, .int .u64 m.at_]), s.W.cell? ⟨w.heap.size, 1, none⟩ = some (.int .i64 m.why) := fun s => (s.h.2.at_ 1).trans rfl
  have d2 : ∀ s : In (fun W => Blk W p 85 #[.int .u32 q.key, .slice (some ⟨g4, 0, none⟩) dn c4, .slice x.E x.ne x.ce, .slice x.M x.nm x.cm] ∧ Blk W w.heap.size 55 #[.int .i64 m.p, .int .i64 m.why, .int .i64 m.k, .int .i64 m.id, .int .i64 m.to, .int .u64 m.at_]), s.W.cell? ⟨w.heap.size, 2, none⟩ = some (.int .i64 m.k) := fun s => (s.h.2.at_ 2).trans rfl
  have d3 : ∀ s : In (fun W => Blk W p 85 #[.int .u32 q.key, .slice (some ⟨g4, 0, none⟩) dn c4, .slice x.E x.ne x.ce, .slice x.M x.nm x.cm] ∧ Blk W w.heap.size 55 #[.int .i64 m.p, .int .i64 m.why, .int .i64 m.k, .int .i64 m.id, .int .i64 m.to, .int .u64 m.at_]), s.W.cell? ⟨w.heap.size, 3, none⟩ = some (.int .i64 m.id) := fun s => (s.h.2.at_ 3).trans rfl
  have d4 : ∀ s : In (fun W => Blk W p 85 #[.int .u32 q.key, .slice (some ⟨g4, 0, none⟩) dn c4, .slice x.E x.ne x.ce, .slice x.M x.nm x.cm] ∧ Blk W w.heap.size 55 #[.int .i64 m.p, .int .i64 m.why, .int .i64 m.k, .int .i64 m.id, .int .i64 m.to, .int .u64 m.at_]), s.W.cell? ⟨w.heap.size, 4, none⟩ = some (.int .i64 m.to) := fun s => (s.h.2.at_ 4).trans rfl
  have d5 : ∀ s : In (fun W => Blk W p 85 #[.int .u32 q.key, .slice (some ⟨g4, 0, none⟩) dn c4, .slice x.E x.ne x.ce, .slice x.M x.nm x.cm] ∧ Blk W w.heap.size 55 #[.int .i64 m.p, .int .i64 m.why, .int .i64 m.k, .int .i64 m.id, .int .i64 m.to, .int .u64 m.at_]), s.W.cell? ⟨w.heap.size, 5, none⟩ = some (.int .u64 m.at_) := fun s => (s.h.2.at_ 5).trans rfl
  have M5 := Lib.hid M5
  refine wp_region_late (Ph (fun w' => ∃ s : In (fun W => Blk W p 85 #[.int .u32 q.key, .slice (some ⟨g4, 0, none⟩) dn c4, .slice x.E x.ne x.ce, .slice x.M x.nm x.cm] ∧ Blk W w.heap.size 55 #[.int .i64 m.p, .int .i64 m.why, .int .i64 m.k, .int .i64 m.id, .int .i64 m.to, .int .u64 m.at_]), w' = s.W) (fun _ => True)) [22] [0,1,2,3,4,5,6,7,8,9,10,13,14,15,16,17] (.two 11 [] (.two 12 [] (.one 18 [] (.one 19 [20,21] (.one 22 [23,24] (.one 25 [] .done)))) 18 [] (.one 12 [] (.one 19 [20,21] (.one 22 [23,24] (.one 25 [] .done))))) 18 [] (.one 11 [] (.one 12 [] (.one 19 [20,21] (.one 22 [23,24] (.one 25 [] .done)))))) (by kernel_rfl) (by kernel_rfl) (fun d _ _ _ _ h => by cases d <;> exact h) ⟨⟨_, M5.out.P.drew, M5.out.G.drew⟩, rfl⟩ ?_
  refine quiet_as (C' := (fun w' => ∃ s : In (fun W => Blk W p 85 #[.int .u32 q.key, .slice (some ⟨g4, 0, none⟩) dn c4, .slice x.E x.ne x.ce, .slice x.M x.nm x.cm] ∧ Blk W w.heap.size 55 #[.int .i64 m.p, .int .i64 m.why, .int .i64 m.k, .int .i64 m.id, .int .i64 m.to, .int .u64 m.at_]), w' = s.W)) rfl ?_
  simp only [opsAt, List.getElem?_toArray, List.getElem?_cons_succ, List.getElem?_cons_zero]
  repeat (go_big_quiet_step (fail))
  refine wpQuiet_nil ?_
  clear e1 e2 e3 d0 d1 d2 d3 d4 d5
  have M6 := Lib.hid M5.out.drew
  refine And.intro ?_ ?_
  · refine eff_as (C' := (fun w' => ∃ s : In (fun W => Blk W p 85 #[.int .u32 q.key, .slice (some ⟨g4, 0, none⟩) dn c4, .slice x.E x.ne x.ce, .slice x.M x.nm x.cm] ∧ Blk W w.heap.size 55 #[.int .i64 m.p, .int .i64 m.why, .int .i64 m.k, .int .i64 m.id, .int .i64 m.to, .int .u64 m.at_]), w' = s.W)) rfl ?_
    (refine eff_lit rfl rfl (fun K hK => ?_))
    go_big_op
    have M7 := Lib.hid (M6.out.alloc (.cells #[.int .i64 dn] 3))
    have S1 : Blk (w5.drew.alloc (.cells #[.int .i64 dn] 3)) w5.heap.size 3 #[.int .i64 dn] := Blk.mk_ _ 3 _ _ (by simp)
    refine hK _ _ ⟨⟨_, M7.out.P, M7.out.G⟩, rfl⟩ ?_
    clear hK K
    simp only [opsAt, List.getElem?_toArray, List.getElem?_cons_succ, List.getElem?_cons_zero]
    refine wpQuiet_nil ?_
    refine And.intro ?_ ?_
    · refine eff_as (C' := (fun w' => ∃ s : In (fun W => Blk W p 85 #[.int .u32 q.key, .slice (some ⟨g4, 0, none⟩) dn c4, .slice x.E x.ne x.ce, .slice x.M x.nm x.cm] ∧ Blk W w.heap.size 55 #[.int .i64 m.p, .int .i64 m.why, .int .i64 m.k, .int .i64 m.id, .int .i64 m.to, .int .u64 m.at_]), w' = s.W)) rfl ?_
      (refine eff_lit rfl rfl (fun K hK => ?_))
      refine append_x_op (w := (w5.drew.alloc (.cells #[.int .i64 dn] 3))) (.tmp 42) (.tmp 48) 25 rfl B 3 (.int .i64 0) 1 8 Tryd.info3 Tryd.underlying25 rfl (by decide) x.E x.ne x.ce (q.ends.map (Value.int .i64)) ?_ M7.out.E (some ⟨w5.heap.size, 0, none⟩) 1 1 [Value.int .i64 dn] ?_ (reads_block S1 1 1 rfl) (by simp [Value.oneCell']) (by decide) ?_ ?_ ?_ _ rfl ?_
      · rfl
      · rfl
      · have := HNE.out; omega
      · have := HNE.out; omega
      · (first | omega | (simp; omega))
      intro gE cE w6 hoE hgE hiE hltE
      simp only [Act.put, List.setIfInBounds_toArray, List.set_cons_succ, List.set_cons_zero]
      have M8 := Lib.hid (M7.out.appE hgE hoE (fun i hi => .inr (.inr (.inl hi))))
      have hszw6 : w5.heap.size ≤ w6.heap.size := by have := hgE.size; simp at this; omega
      refine hK _ _ ⟨⟨_, M8.out.P, M8.out.G⟩, rfl⟩ ?_
      clear hK K
      simp only [opsAt, List.getElem?_toArray, List.getElem?_cons_succ, List.getElem?_cons_zero]
      refine wpQuiet_nil ?_
      refine eff_as (C' := (fun w' => ∃ s : In (fun W => Blk W p 85 #[.int .u32 q.key, .slice (some ⟨g4, 0, none⟩) dn c4, .slice x.E x.ne x.ce, .slice x.M x.nm x.cm] ∧ Blk W w.heap.size 55 #[.int .i64 m.p, .int .i64 m.why, .int .i64 m.k, .int .i64 m.id, .int .i64 m.to, .int .u64 m.at_]), w' = s.W)) rfl ?_
      (refine eff_lit rfl rfl (fun K hK => ?_))
      go_big_op
      have M9 := Lib.hid (M8.out.alloc (.cells #[.int .i64 m.p, .int .i64 m.why, .int .i64 m.k, .int .i64 m.id, .int .i64 m.to, .int .u64 m.at_] 55))
      have S2 : Blk (w6.alloc (.cells #[.int .i64 m.p, .int .i64 m.why, .int .i64 m.k, .int .i64 m.id, .int .i64 m.to, .int .u64 m.at_] 55)) (w6.heap.size) 55 #[.int .i64 m.p, .int .i64 m.why, .int .i64 m.k, .int .i64 m.id, .int .i64 m.to, .int .u64 m.at_] := Blk.mk_ _ 55 _ _ (by simp)
      refine hK _ _ ⟨⟨_, M9.out.P, M9.out.G⟩, rfl⟩ ?_
      clear hK K
      simp only [opsAt, List.getElem?_toArray, List.getElem?_cons_succ, List.getElem?_cons_zero]
      refine wpQuiet_nil ?_
      have HGM : Hid (blkOf x.M ≠ some w.heap.size) := HG0
      refine eff_as (C' := (fun w' => ∃ s : In (fun W => Blk W p 85 #[.int .u32 q.key, .slice (some ⟨g4, 0, none⟩) dn c4, .slice x.E x.ne x.ce, .slice x.M x.nm x.cm] ∧ Blk W w.heap.size 55 #[.int .i64 m.p, .int .i64 m.why, .int .i64 m.k, .int .i64 m.id, .int .i64 m.to, .int .u64 m.at_]), w' = s.W)) rfl ?_
      (refine eff_lit rfl rfl (fun K hK => ?_))
      refine append_x_op (w := (w6.alloc (.cells #[.int .i64 m.p, .int .i64 m.why, .int .i64 m.k, .int .i64 m.id, .int .i64 m.to, .int .u64 m.at_] 55))) (.tmp 53) (.tmp 55) 60 rfl B 55 (.agg #[.int .i64 0, .int .i64 0, .int .i64 0, .int .i64 0, .int .i64 0, .int .u64 0]) 6 48 Tryd.info55 Tryd.underlying60 rfl (by decide) x.M x.nm x.cm (mcells q.mv) ?_ M9.out.M (some ⟨w6.heap.size, 0, none⟩) 1 1 m.cells ?_ (reads_block S2 6 1 rfl) (by simp [MoveV.cells, Value.oneCell']) (by decide) ?_ ?_ ?_ _ rfl ?_
      · rfl
      · rfl
      · have := HNM.out; omega
      · have := HNM.out; omega
      · (first | omega | (simp; omega))
      intro gM cM w7 hoM hgM hiM hltM
      simp only [Act.put, List.setIfInBounds_toArray, List.set_cons_succ, List.set_cons_zero]
      have M10 := Lib.hid (M9.out.appM hgM hoM (fun i hi => .inr (.inr (.inr hi))) HGM.out)
      refine hK _ _ ⟨⟨_, M10.out.P, M10.out.G⟩, rfl⟩ ?_
      clear hK K
      simp only [opsAt, List.getElem?_toArray, List.getElem?_cons_succ, List.getElem?_cons_zero]
      repeat (go_big_quiet_step (fail))
      refine wpQuiet_nil ?_
      have q2 := (M10.out.P.at_ 2).trans rfl
      have f2 := M10.out.P.free 2
      have q3 := (M10.out.P.at_ 3).trans rfl
      have f3 := M10.out.P.free 3
      have hp7 := M10.out.P.lt
      refine eff_as (C' := fun _ => True) rfl ?_
      (refine eff_lit rfl rfl (fun K hK => ?_))
      go_big_op
      refine hK _ _ trivial ?_
      clear hK K
      simp only [opsAt, List.getElem?_toArray, List.getElem?_cons_succ, List.getElem?_cons_zero]
      repeat (go_big_quiet_step (fail))
      refine wpQuiet_nil ?_
      refine eff_as (C' := fun _ => True) rfl ?_
      (refine eff_lit rfl rfl (fun K hK => ?_))
      go_big_op
      refine hK _ _ trivial ?_
      clear hK K
      simp only [opsAt, List.getElem?_toArray, List.getElem?_cons_succ, List.getElem?_cons_zero]
      refine wpQuiet_nil ?_
      refine effs_done ?_
      have MF := (M10.out.put 2 (.slice (some ⟨gE, 0, none⟩) (x.ne + 1) cE) (.inl rfl) hgp).put 3 (.slice (some ⟨gM, 0, none⟩) (x.nm + 1) cM) (.inl rfl) hgp
      go_wp2
      go_ret
      exact app_end HR.out HF.out hc HDN.out HI4.out (hiE.imp id (fun h => by (first | omega | (simp at h; omega)))) (hiM.imp id (fun h => by (first | omega | (simp at h; omega)))) MF
    · refine eff_as (C' := (fun w' => ∃ s : In (fun W => Blk W p 85 #[.int .u32 q.key, .slice (some ⟨g4, 0, none⟩) dn c4, .slice x.E x.ne x.ce, .slice x.M x.nm x.cm] ∧ Blk W w.heap.size 55 #[.int .i64 m.p, .int .i64 m.why, .int .i64 m.k, .int .i64 m.id, .int .i64 m.to, .int .u64 m.at_]), w' = s.W)) rfl ?_
      (refine eff_lit rfl rfl (fun K hK => ?_))
      go_big_op
      have M8 := Lib.hid (M7.out.alloc (.cells #[.int .i64 m.p, .int .i64 m.why, .int .i64 m.k, .int .i64 m.id, .int .i64 m.to, .int .u64 m.at_] 55))
      have S2 : Blk ((w5.drew.alloc (.cells #[.int .i64 dn] 3)).alloc (.cells #[.int .i64 m.p, .int .i64 m.why, .int .i64 m.k, .int .i64 m.id, .int .i64 m.to, .int .u64 m.at_] 55)) (w5.heap.size + 1) 55 #[.int .i64 m.p, .int .i64 m.why, .int .i64 m.k, .int .i64 m.id, .int .i64 m.to, .int .u64 m.at_] := Blk.mk_ _ 55 _ _ (by simp)
      refine hK _ _ ⟨⟨_, M8.out.P, M8.out.G⟩, rfl⟩ ?_
      clear hK K
      simp only [opsAt, List.getElem?_toArray, List.getElem?_cons_succ, List.getElem?_cons_zero]
      refine wpQuiet_nil ?_
      have S1 := S1.alloc (.cells #[.int .i64 m.p, .int .i64 m.why, .int .i64 m.k, .int .i64 m.id, .int .i64 m.to, .int .u64 m.at_] 55)
      refine eff_as (C' := (fun w' => ∃ s : In (fun W => Blk W p 85 #[.int .u32 q.key, .slice (some ⟨g4, 0, none⟩) dn c4, .slice x.E x.ne x.ce, .slice x.M x.nm x.cm] ∧ Blk W w.heap.size 55 #[.int .i64 m.p, .int .i64 m.why, .int .i64 m.k, .int .i64 m.id, .int .i64 m.to, .int .u64 m.at_]), w' = s.W)) rfl ?_
      (refine eff_lit rfl rfl (fun K hK => ?_))
      refine append_x_op (w := ((w5.drew.alloc (.cells #[.int .i64 dn] 3)).alloc (.cells #[.int .i64 m.p, .int .i64 m.why, .int .i64 m.k, .int .i64 m.id, .int .i64 m.to, .int .u64 m.at_] 55))) (.tmp 42) (.tmp 48) 25 rfl B 3 (.int .i64 0) 1 8 Tryd.info3 Tryd.underlying25 rfl (by decide) x.E x.ne x.ce (q.ends.map (Value.int .i64)) ?_ M8.out.E (some ⟨w5.heap.size, 0, none⟩) 1 1 [Value.int .i64 dn] ?_ (reads_block S1 1 1 rfl) (by simp [Value.oneCell']) (by decide) ?_ ?_ ?_ _ rfl ?_
      · rfl
      · rfl
      · have := HNE.out; omega
      · have := HNE.out; omega
      · (first | omega | (simp; omega))
      intro gE cE w6 hoE hgE hiE hltE
      simp only [Act.put, List.setIfInBounds_toArray, List.set_cons_succ, List.set_cons_zero]
      have M9 := Lib.hid (M8.out.appE hgE hoE (fun i hi => .inr (.inr (.inl hi))))
      have hszw6 : w5.heap.size ≤ w6.heap.size := by have := hgE.size; simp at this; omega
      refine hK _ _ ⟨⟨_, M9.out.P, M9.out.G⟩, rfl⟩ ?_
      clear hK K
      simp only [opsAt, List.getElem?_toArray, List.getElem?_cons_succ, List.getElem?_cons_zero]
      refine wpQuiet_nil ?_
      have S2 := S2.grown hgE (Ne.symm (M8.out.E.apart_blk S2 (by decide)))
      have HGM : Hid (blkOf x.M ≠ some w.heap.size) := HG0
      refine eff_as (C' := (fun w' => ∃ s : In (fun W => Blk W p 85 #[.int .u32 q.key, .slice (some ⟨g4, 0, none⟩) dn c4, .slice x.E x.ne x.ce, .slice x.M x.nm x.cm] ∧ Blk W w.heap.size 55 #[.int .i64 m.p, .int .i64 m.why, .int .i64 m.k, .int .i64 m.id, .int .i64 m.to, .int .u64 m.at_]), w' = s.W)) rfl ?_
      (refine eff_lit rfl rfl (fun K hK => ?_))
      refine append_x_op (w := w6) (.tmp 53) (.tmp 55) 60 rfl B 55 (.agg #[.int .i64 0, .int .i64 0, .int .i64 0, .int .i64 0, .int .i64 0, .int .u64 0]) 6 48 Tryd.info55 Tryd.underlying60 rfl (by decide) x.M x.nm x.cm (mcells q.mv) ?_ M9.out.M (some ⟨w5.heap.size + 1, 0, none⟩) 1 1 m.cells ?_ (reads_block S2 6 1 rfl) (by simp [MoveV.cells, Value.oneCell']) (by decide) ?_ ?_ ?_ _ rfl ?_
      · rfl
      · rfl
      · have := HNM.out; omega
      · have := HNM.out; omega
      · (first | omega | (simp; omega))
      intro gM cM w7 hoM hgM hiM hltM
      simp only [Act.put, List.setIfInBounds_toArray, List.set_cons_succ, List.set_cons_zero]
      have M10 := Lib.hid (M9.out.appM hgM hoM (fun i hi => .inr (.inr (.inr hi))) HGM.out)
      refine hK _ _ ⟨⟨_, M10.out.P, M10.out.G⟩, rfl⟩ ?_
      clear hK K
      simp only [opsAt, List.getElem?_toArray, List.getElem?_cons_succ, List.getElem?_cons_zero]
      repeat (go_big_quiet_step (fail))
      refine wpQuiet_nil ?_
      have q2 := (M10.out.P.at_ 2).trans rfl
      have f2 := M10.out.P.free 2
      have q3 := (M10.out.P.at_ 3).trans rfl
      have f3 := M10.out.P.free 3
      have hp7 := M10.out.P.lt
      refine eff_as (C' := fun _ => True) rfl ?_
      (refine eff_lit rfl rfl (fun K hK => ?_))
      go_big_op
      refine hK _ _ trivial ?_
      clear hK K
      simp only [opsAt, List.getElem?_toArray, List.getElem?_cons_succ, List.getElem?_cons_zero]
      repeat (go_big_quiet_step (fail))
      refine wpQuiet_nil ?_
      refine eff_as (C' := fun _ => True) rfl ?_
      (refine eff_lit rfl rfl (fun K hK => ?_))
      go_big_op
      refine hK _ _ trivial ?_
      clear hK K
      simp only [opsAt, List.getElem?_toArray, List.getElem?_cons_succ, List.getElem?_cons_zero]
      refine wpQuiet_nil ?_
      refine effs_done ?_
      have MF := (M10.out.put 2 (.slice (some ⟨gE, 0, none⟩) (x.ne + 1) cE) (.inl rfl) hgp).put 3 (.slice (some ⟨gM, 0, none⟩) (x.nm + 1) cM) (.inl rfl) hgp
      go_wp2
      go_ret
      exact app_end HR.out HF.out hc HDN.out HI4.out (hiE.imp id (fun h => by (first | omega | (simp at h; omega)))) (hiM.imp id (fun h => by (first | omega | (simp at h; omega)))) MF
  · refine eff_as (C' := (fun w' => ∃ s : In (fun W => Blk W p 85 #[.int .u32 q.key, .slice (some ⟨g4, 0, none⟩) dn c4, .slice x.E x.ne x.ce, .slice x.M x.nm x.cm] ∧ Blk W w.heap.size 55 #[.int .i64 m.p, .int .i64 m.why, .int .i64 m.k, .int .i64 m.id, .int .i64 m.to, .int .u64 m.at_]), w' = s.W)) rfl ?_
    (refine eff_lit rfl rfl (fun K hK => ?_))
    go_big_op
    have M7 := Lib.hid (M6.out.alloc (.cells #[.int .i64 m.p, .int .i64 m.why, .int .i64 m.k, .int .i64 m.id, .int .i64 m.to, .int .u64 m.at_] 55))
    have S2 : Blk (w5.drew.alloc (.cells #[.int .i64 m.p, .int .i64 m.why, .int .i64 m.k, .int .i64 m.id, .int .i64 m.to, .int .u64 m.at_] 55)) (w5.heap.size) 55 #[.int .i64 m.p, .int .i64 m.why, .int .i64 m.k, .int .i64 m.id, .int .i64 m.to, .int .u64 m.at_] := Blk.mk_ _ 55 _ _ (by simp)
    refine hK _ _ ⟨⟨_, M7.out.P, M7.out.G⟩, rfl⟩ ?_
    clear hK K
    simp only [opsAt, List.getElem?_toArray, List.getElem?_cons_succ, List.getElem?_cons_zero]
    refine wpQuiet_nil ?_
    refine eff_as (C' := (fun w' => ∃ s : In (fun W => Blk W p 85 #[.int .u32 q.key, .slice (some ⟨g4, 0, none⟩) dn c4, .slice x.E x.ne x.ce, .slice x.M x.nm x.cm] ∧ Blk W w.heap.size 55 #[.int .i64 m.p, .int .i64 m.why, .int .i64 m.k, .int .i64 m.id, .int .i64 m.to, .int .u64 m.at_]), w' = s.W)) rfl ?_
    (refine eff_lit rfl rfl (fun K hK => ?_))
    go_big_op
    have M8 := Lib.hid (M7.out.alloc (.cells #[.int .i64 dn] 3))
    have S1 : Blk ((w5.drew.alloc (.cells #[.int .i64 m.p, .int .i64 m.why, .int .i64 m.k, .int .i64 m.id, .int .i64 m.to, .int .u64 m.at_] 55)).alloc (.cells #[.int .i64 dn] 3)) (w5.heap.size + 1) 3 #[.int .i64 dn] := Blk.mk_ _ 3 _ _ (by simp)
    refine hK _ _ ⟨⟨_, M8.out.P, M8.out.G⟩, rfl⟩ ?_
    clear hK K
    simp only [opsAt, List.getElem?_toArray, List.getElem?_cons_succ, List.getElem?_cons_zero]
    refine wpQuiet_nil ?_
    have S2 := S2.alloc (.cells #[.int .i64 dn] 3)
    refine eff_as (C' := (fun w' => ∃ s : In (fun W => Blk W p 85 #[.int .u32 q.key, .slice (some ⟨g4, 0, none⟩) dn c4, .slice x.E x.ne x.ce, .slice x.M x.nm x.cm] ∧ Blk W w.heap.size 55 #[.int .i64 m.p, .int .i64 m.why, .int .i64 m.k, .int .i64 m.id, .int .i64 m.to, .int .u64 m.at_]), w' = s.W)) rfl ?_
    (refine eff_lit rfl rfl (fun K hK => ?_))
    refine append_x_op (w := ((w5.drew.alloc (.cells #[.int .i64 m.p, .int .i64 m.why, .int .i64 m.k, .int .i64 m.id, .int .i64 m.to, .int .u64 m.at_] 55)).alloc (.cells #[.int .i64 dn] 3))) (.tmp 42) (.tmp 48) 25 rfl B 3 (.int .i64 0) 1 8 Tryd.info3 Tryd.underlying25 rfl (by decide) x.E x.ne x.ce (q.ends.map (Value.int .i64)) ?_ M8.out.E (some ⟨w5.heap.size + 1, 0, none⟩) 1 1 [Value.int .i64 dn] ?_ (reads_block S1 1 1 rfl) (by simp [Value.oneCell']) (by decide) ?_ ?_ ?_ _ rfl ?_
    · rfl
    · rfl
    · have := HNE.out; omega
    · have := HNE.out; omega
    · (first | omega | (simp; omega))
    intro gE cE w6 hoE hgE hiE hltE
    simp only [Act.put, List.setIfInBounds_toArray, List.set_cons_succ, List.set_cons_zero]
    have M9 := Lib.hid (M8.out.appE hgE hoE (fun i hi => .inr (.inr (.inl hi))))
    have hszw6 : w5.heap.size ≤ w6.heap.size := by have := hgE.size; simp at this; omega
    refine hK _ _ ⟨⟨_, M9.out.P, M9.out.G⟩, rfl⟩ ?_
    clear hK K
    simp only [opsAt, List.getElem?_toArray, List.getElem?_cons_succ, List.getElem?_cons_zero]
    refine wpQuiet_nil ?_
    have S2 := S2.grown hgE (Ne.symm (M8.out.E.apart_blk S2 (by decide)))
    have HGM : Hid (blkOf x.M ≠ some w.heap.size) := HG0
    refine eff_as (C' := (fun w' => ∃ s : In (fun W => Blk W p 85 #[.int .u32 q.key, .slice (some ⟨g4, 0, none⟩) dn c4, .slice x.E x.ne x.ce, .slice x.M x.nm x.cm] ∧ Blk W w.heap.size 55 #[.int .i64 m.p, .int .i64 m.why, .int .i64 m.k, .int .i64 m.id, .int .i64 m.to, .int .u64 m.at_]), w' = s.W)) rfl ?_
    (refine eff_lit rfl rfl (fun K hK => ?_))
    refine append_x_op (w := w6) (.tmp 53) (.tmp 55) 60 rfl B 55 (.agg #[.int .i64 0, .int .i64 0, .int .i64 0, .int .i64 0, .int .i64 0, .int .u64 0]) 6 48 Tryd.info55 Tryd.underlying60 rfl (by decide) x.M x.nm x.cm (mcells q.mv) ?_ M9.out.M (some ⟨w5.heap.size, 0, none⟩) 1 1 m.cells ?_ (reads_block S2 6 1 rfl) (by simp [MoveV.cells, Value.oneCell']) (by decide) ?_ ?_ ?_ _ rfl ?_
    · rfl
    · rfl
    · have := HNM.out; omega
    · have := HNM.out; omega
    · (first | omega | (simp; omega))
    intro gM cM w7 hoM hgM hiM hltM
    simp only [Act.put, List.setIfInBounds_toArray, List.set_cons_succ, List.set_cons_zero]
    have M10 := Lib.hid (M9.out.appM hgM hoM (fun i hi => .inr (.inr (.inr hi))) HGM.out)
    refine hK _ _ ⟨⟨_, M10.out.P, M10.out.G⟩, rfl⟩ ?_
    clear hK K
    simp only [opsAt, List.getElem?_toArray, List.getElem?_cons_succ, List.getElem?_cons_zero]
    repeat (go_big_quiet_step (fail))
    refine wpQuiet_nil ?_
    have q2 := (M10.out.P.at_ 2).trans rfl
    have f2 := M10.out.P.free 2
    have q3 := (M10.out.P.at_ 3).trans rfl
    have f3 := M10.out.P.free 3
    have hp7 := M10.out.P.lt
    refine eff_as (C' := fun _ => True) rfl ?_
    (refine eff_lit rfl rfl (fun K hK => ?_))
    go_big_op
    refine hK _ _ trivial ?_
    clear hK K
    simp only [opsAt, List.getElem?_toArray, List.getElem?_cons_succ, List.getElem?_cons_zero]
    repeat (go_big_quiet_step (fail))
    refine wpQuiet_nil ?_
    refine eff_as (C' := fun _ => True) rfl ?_
    (refine eff_lit rfl rfl (fun K hK => ?_))
    go_big_op
    refine hK _ _ trivial ?_
    clear hK K
    simp only [opsAt, List.getElem?_toArray, List.getElem?_cons_succ, List.getElem?_cons_zero]
    refine wpQuiet_nil ?_
    refine effs_done ?_
    have MF := (M10.out.put 2 (.slice (some ⟨gE, 0, none⟩) (x.ne + 1) cE) (.inl rfl) hgp).put 3 (.slice (some ⟨gM, 0, none⟩) (x.nm + 1) cM) (.inl rfl) hgp
    go_wp2
    go_ret
    exact app_end HR.out HF.out hc HDN.out HI4.out (hiE.imp id (fun h => by (first | omega | (simp at h; omega)))) (hiM.imp id (fun h => by (first | omega | (simp at h; omega)))) MF
theorem Rp.onlyF {w w' : World} {p : Nat} {q : St} {F : Nat → Prop} {B : Nat} {x : RpC} (h : Rp w B p q x) (ho : OnlyF F w w') (hF : ∀ i, Foot p x i → ¬ F i) : Rp w' B p q x :=
  ⟨h.blk.onlyF ho (hF _ (.inl rfl)), h.base, h.data.onlyF ho (fun i hi => hF i (.inr (.inl hi))), h.ends.onlyF ho (fun i hi => hF i (.inr (.inr (.inl hi)))), h.mv.onlyF ho (fun i hi => hF i (.inr (.inr (.inr hi)))), h.ok⟩
end Go.Proofs.YtpbbemmjodegkaaDoor
