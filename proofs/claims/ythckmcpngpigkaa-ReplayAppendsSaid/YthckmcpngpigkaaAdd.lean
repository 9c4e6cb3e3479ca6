/-
  The model in memory; its last, its add.
-/
import Derived.Test.YthckmcpngpigkaaMdl
import Derived.Test.YthckmcpngpigkaaClone
import Derived.Test.YthckmcpngpigkaaRowR
set_option linter.unusedSimpArgs false
set_option linter.unusedVariables false
namespace Go.Proofs.Ythckmcpngpigkaa
open Go.RowKit

structure MdC where
  M : Option Addr
  nm : Nat
  cm : Nat
  E : Option Addr
  ne : Nat
  ce : Nat
  D : Option Addr
  nd : Nat
  cd : Nat
/-- Block p is the law's model in state q. -/
structure Md (w : World) (p : Nat) (q : St) (y : MdC) : Prop where
  blk : Blk w p 31 #[.int .u32 q.key, .slice y.M y.nm y.cm, .slice y.E y.ne y.ce, .slice y.D y.nd y.cd, .int .u32 q.sum]
  mv : Reads w 6 y.M y.nm (mcells q.mv) ∧ (y.M = none → y.cm = 0)
  ends : Reads w 1 y.E y.ne (q.ends.map (Value.int .i64)) ∧ (y.E = none → y.ce = 0)
  data : BReads w y.D y.nd q.data ∧ (y.D = none → y.cd = 0)
  cap : y.nd ≤ y.cd ∧ y.cd ≤ 9223372036854775807
  ok : q.ok
section
variable {w w' : World} {p : Nat} {q : St} {y : MdC}
theorem Md.below (h : Md w p q y) (hb : Below w.heap.size w w') : Md w' p q y := ⟨h.blk.call hb, ⟨h.mv.1.below hb, h.mv.2⟩, ⟨h.ends.1.below hb, h.ends.2⟩, ⟨h.data.1.below hb, h.data.2⟩, h.cap, h.ok⟩
theorem Md.nm_eq (h : Md w p q y) : y.nm = q.mv.length := by have := h.mv.1.1; rw [mcells_len] at this; omega
theorem Md.ne_eq (h : Md w p q y) : y.ne = q.mv.length := by have := h.ends.1.1; rw [List.length_map, h.ok.endl] at this; omega
theorem Md.nd_eq (h : Md w p q y) : y.nd = q.data.length := h.data.1.length.symm
/-- Where it lies. -/
def FootM (p : Nat) (y : MdC) (i : Nat) : Prop := i = p ∨ (0 < y.nm ∧ blkOf y.M = some i) ∨ (0 < y.ne ∧ blkOf y.E = some i) ∨ (0 < y.nd ∧ blkOf y.D = some i)
theorem Reads.foot {size n : Nat} {A : Option Addr} {xs : List Value} (h : Reads w size A n xs) (hn : 0 < n) : ∀ i, blkOf A = some i → i < w.heap.size := by
  intro i hi
  obtain ⟨ad, rfl, hb, _⟩ := h.2 hn
  simp [blkOf] at hi
  omega
theorem Reads.onlyF {F : Nat → Prop} {size n : Nat} {A : Option Addr} {xs : List Value} (h : Reads w size A n xs) (ho : OnlyF F w w') (hF : 0 < n → ∀ i, blkOf A = some i → ¬ F i) : Reads w' size A n xs :=
  ⟨h.1, fun hn => by
    obtain ⟨ad, rfl, hb, hc⟩ := h.2 hn
    refine ⟨ad, rfl, Nat.lt_of_lt_of_le hb ho.size, fun j u hu => (World.cell?_of_block (ho.block _ (by rw [block_of_add]; exact hb) ?_)).trans (hc j u hu)⟩
    rw [block_of_add]
    exact hF hn _ rfl⟩
theorem Blk.onlyF {F : Nat → Prop} {g : Nat} {t : TypeId} {cs : Array Value} (h : Blk w g t cs) (ho : OnlyF F w w') (hF : ¬ F g) : Blk w' g t cs := (ho.block g h.lt hF).trans h
theorem Md.onlyF {F : Nat → Prop} (h : Md w p q y) (ho : OnlyF F w w') (hF : ∀ i, FootM p y i → ¬ F i) : Md w' p q y :=
  ⟨h.blk.onlyF ho (hF _ (.inl rfl)), ⟨h.mv.1.onlyF ho (fun hn i hi => hF i (.inr (.inl ⟨hn, hi⟩))), h.mv.2⟩, ⟨h.ends.1.onlyF ho (fun hn i hi => hF i (.inr (.inr (.inl ⟨hn, hi⟩)))), h.ends.2⟩, ⟨⟨h.data.1.1.onlyF ho (fun hn i hi => hF i (.inr (.inr (.inr ⟨hn, hi⟩)))), h.data.1.2⟩, h.data.2⟩, h.cap, h.ok⟩
theorem XOwns.onlyF {F : Nat → Prop} {base : Nat} {e : TypeId} {size : Nat} {A : Option Addr} {n cap : Nat} {xs : List Value} (h : XOwns w base e size A n cap xs) (ho : OnlyF F w w') (hF : ∀ i, blkOf A = some i → ¬ F i) : XOwns w' base e size A n cap xs := by
  refine ⟨⟨h.1.1, ?_⟩, h.2⟩
  rcases h.1.2 with h0 | ⟨g, c, cur, h1, h2, h3, h4⟩
  · exact .inl h0
  · refine .inr ⟨g, c, cur, h1, h2, ?_, h4⟩
    injection h1 with h1
    have hlt : g < w.heap.size := by
      rcases Nat.lt_or_ge g w.heap.size with h' | h'
      · exact h'
      · rw [Array.getElem?_eq_none h'] at h3; cases h3
    exact (ho.block g hlt (hF g (by rw [h1]; rfl))).trans h3
theorem Rp.onlyF {F : Nat → Prop} {B : Nat} {x : RpC} (h : Rp w B p q x) (ho : OnlyF F w w') (hF : ∀ i, Foot p x i → ¬ F i) : Rp w' B p q x :=
  ⟨h.blk.onlyF ho (hF _ (.inl rfl)), h.base, h.data.onlyF ho (fun i hi => hF i (.inr (.inl hi))), h.ends.onlyF ho (fun i hi => hF i (.inr (.inr (.inl hi)))), h.mv.onlyF ho (fun i hi => hF i (.inr (.inr (.inr hi)))), h.ok⟩
end

set_option maxHeartbeats 800000 in
theorem mlast_any (p : Nat) (q : St) (y : MdC) (w : World) (h : Md w p q y) : Calls Try.prog 26 #[.pointer (some ⟨p, 0, none⟩)] w fun e w' => e = .returned (.int .u64 q.last) ∧ Below w.heap.size w w' := by
  have x1 := (h.blk.at_ 1).trans rfl
  have hn := h.nm_eq
  rcases Nat.eq_zero_or_pos q.mv.length with h0 | h0
  · have hl := Lib.hid (h.ok.nil_ h0).2.2
    rw [h0] at hn
    rw [hn] at x1
    clear h hn h0
    go_enter Try.func26, Try.ntmps26
    go_wp2
    go_ret
    exact ⟨by rw [hl.out]; rfl, Below.refl _ _⟩
  · obtain ⟨l, m, hl, hm⟩ := (h.ok.cons_ h0).2
    have hlk : q.mv.length = l.length + 1 := by rw [hl]; simp
    obtain ⟨ad, hM, _, hcell⟩ := h.mv.1.2 (by omega)
    have hc := hcell (l.length * 6 + 5) (.int .u64 m.at_) (by rw [mcells_at (k := l.length) (m := m) (by rw [hl]; simp) (by omega)]; rfl)
    have hc2 := part_at 4 hc
    rw [hM, hn, hlk] at x1
    have HM := Lib.hid hm
    have hcnt := h.ok.cnt
    generalize hk : l.length = k at *
    clear h hn hl hm hk h0 hcell hc
    have hkb : k ≤ 4096 := by omega
    clear hcnt
    go_enter Try.func26, Try.ntmps26
    go_wp2
    go_quiet (fail)
    go_wp2
    go_ret
    exact ⟨by rw [← HM.out]; rfl, by (focus (repeat' (first | (with_reducible exact Below.refl _ _) | (with_reducible assumption) | (with_reducible refine Below.alloc ?_ ?_ _) | (with_reducible refine below_drewN ?_ _) | (with_reducible refine Below.drew ?_) | (with_reducible refine Below.setCell ?_ ?_ _) | omega | (simp; done) | (simp; omega))))⟩

theorem XOwns.more {w : World} {base base' : Nat} {e : TypeId} {size : Nat} {A : Option Addr} {n cap : Nat} {xs : List Value} (h : XOwns w base e size A n cap xs) (hb : base' ≤ base) : XOwns w base' e size A n cap xs := by
  refine ⟨⟨h.1.1, ?_⟩, h.2⟩
  rcases h.1.2 with h0 | ⟨g, c, cur, h1, h2, h3⟩
  · exact .inl h0
  · exact .inr ⟨g, c, cur, h1, by omega, h3⟩
/-- Midway in add. -/
structure MidM (w W : World) (p g : Nat) (cs ms : Array Value) (q : St) (y : MdC) (g4 n : Nat) (rb : List Int) : Prop where
  P : Blk W p 31 cs
  G : Blk W g 41 ms
  mv : Reads W 6 y.M y.nm (mcells q.mv)
  ends : Reads W 1 y.E y.ne (q.ends.map (Value.int .i64))
  data : BReads W y.D y.nd q.data
  R : BReads W (some ⟨g4, 0, none⟩) n rb
  O : OnlyF (fun i => i = p) w W
theorem MidM.below {w W W' : World} {p g : Nat} {cs ms : Array Value} {q : St} {y : MdC} {g4 n : Nat} {rb : List Int} (h : MidM w W p g cs ms q y g4 n rb) (hb : Below W.heap.size W W') : MidM w W' p g cs ms q y g4 n rb :=
  ⟨h.P.call hb, h.G.call hb, h.mv.below hb, h.ends.below hb, h.data.below hb, h.R.below hb, h.O.trans (OnlyF.of_below (F := fun _ => False) hb) (fun _ hf => hf.elim)⟩
theorem MidM.put {w W : World} {p g : Nat} {cs ms : Array Value} {q : St} {y : MdC} {g4 n : Nat} {rb : List Int} (h : MidM w W p g cs ms q y g4 n rb) (i : Nat) (u : Value) (hgp : g ≠ p) (hM : 0 < y.nm → blkOf y.M ≠ some p) (hE : 0 < y.ne → blkOf y.E ≠ some p) (hD : 0 < y.nd → blkOf y.D ≠ some p) (hR : g4 ≠ p) :
    MidM w (W.setCell ⟨p, i, none⟩ u) p g (cs.setIfInBounds i u) ms q y g4 n rb :=
  have hg : W.grownBy (W.setCell ⟨p, i, none⟩ u) (some p) := only_setCell (only_refl _ _) (.inl rfl) _
  ⟨h.P.put i u, h.G.far hgp u, h.mv.grown hg hM, h.ends.grown hg hE, h.data.grown hg hD, h.R.grown hg (fun _ e => hR (by injection e)), h.O.put (.inl rfl) u⟩

theorem add_end {w W : World} {p g : Nat} {q : St} {y : MdC} {m : MoveV} {ms : Array Value} {g4 hl : Nat} {u : Int} {D7 : Option Addr} {c7 gM cM gE cE b1 b2 b3 : Nat} (hf : fits q m) (hc : q.mv.length < 4096) (hok : q.ok) (e1 : y.nm = q.mv.length) (e2 : y.ne = q.mv.length) (e3 : y.nd = q.data.length)
    (hrl : (recS q.last q.sum m).length = hl + 4) (hu : u = (q.add m).sum) (h1 : w.heap.size ≤ b1) (h2 : w.heap.size ≤ b2) (h3 : w.heap.size ≤ b3)
    (H : MidM w W p g #[.int .u32 q.key, .slice (some ⟨gM, 0, none⟩) (y.nm + 1) cM, .slice (some ⟨gE, 0, none⟩) (y.ne + 1) cE, .slice D7 (y.nd + (hl + 4)) c7, .int .u32 u] ms q y g4 (hl + 4) (recS q.last q.sum m))
    (hE : XOwns W b1 3 1 (some ⟨gE, 0, none⟩) (y.ne + 1) cE (q.ends.map (Value.int .i64) ++ [.int .i64 (y.nd + (hl + 4))])) (hM : XOwns W b2 41 6 (some ⟨gM, 0, none⟩) (y.nm + 1) cM (mcells (q.mv ++ [m]))) (hD : XOwns W b3 5 1 D7 (y.nd + (hl + 4)) c7 (bys (q.data ++ recS q.last q.sum m))) :
    ∃ y', Ending.returned (Value.int .i64 0) = Ending.returned (Value.int .i64 0) ∧ Md W p (q.add m) y' ∧ OnlyF (fun i => i = p) w W ∧ ∀ i, FootM p y' i → i = p ∨ w.heap.size ≤ i := by
  have hcap : y.nd + (hl + 4) ≤ c7 ∧ c7 ≤ 9223372036854775807 := by
    rcases hD.1.2 with ⟨_, h0⟩ | ⟨g', c', cur, h1, _, _, h2, h3, _⟩
    · omega
    · injection h1 with _ _ h1
      unfold maxLen at h3
      omega
  have hok2 := hok.add hf hc
  refine ⟨⟨some ⟨gM, 0, none⟩, y.nm + 1, cM, some ⟨gE, 0, none⟩, y.ne + 1, cE, D7, y.nd + (hl + 4), c7⟩, rfl, ⟨?_, ⟨hM.reads, fun h => by cases h⟩, ⟨?_, fun h => by cases h⟩, ⟨⟨hD.reads, hok2.bytes⟩, hD.2⟩, hcap, hok2⟩, H.O, ?_⟩
  · have := H.P
    rw [hu] at this
    exact this
  · have := hE.reads
    rw [show q.ends.map (Value.int .i64) ++ [Value.int .i64 ((y.nd : Int) + ((hl : Int) + 4))] = (q.add m).ends.map (Value.int .i64) by
      simp only [St.add, List.map_append, List.map_cons, List.map_nil, List.length_append]
      rw [hrl, e3]
      simp] at this
    exact this
  · rintro i (rfl | ⟨_, hi⟩ | ⟨_, hi⟩ | ⟨_, hi⟩)
    · exact .inl rfl
    · have := (hM.lt _ hi).1; exact .inr (by omega)
    · have := (hE.lt _ hi).1; exact .inr (by omega)
    · have := (hD.lt _ hi).1; exact .inr (by omega)

theorem can_t {m : MoveV} (hk : keptB m = true) (w : World) : Calls Try.prog 25 #[.agg #[.int .i64 m.p, .int .i64 m.why, .int .i64 m.k, .int .i64 m.id, .int .i64 m.to, .int .u64 m.at_]] w fun e w' => e = .returned (.bool true) ∧ Below w.heap.size w w' := by
  have h := can_any m w
  rw [hk] at h
  exact h
theorem can_f {m : MoveV} (hk : keptB m = false) (w : World) : Calls Try.prog 25 #[.agg #[.int .i64 m.p, .int .i64 m.why, .int .i64 m.k, .int .i64 m.id, .int .i64 m.to, .int .u64 m.at_]] w fun e w' => e = .returned (.bool false) ∧ Below w.heap.size w w' := by
  have h := can_any m w
  rw [hk] at h
  exact h

set_option maxRecDepth 100000 in
set_option maxHeartbeats 3200000 in
theorem add_bad1 (p : Nat) (q : St) (y : MdC) (m : MoveV) (w : World) (h : Md w p q y) (hk : keptB m = false) : Calls Try.prog 9 #[.pointer (some ⟨p, 0, none⟩), .agg #[.int .i64 m.p, .int .i64 m.why, .int .i64 m.k, .int .i64 m.id, .int .i64 m.to, .int .u64 m.at_]] w fun e w' => e = .returned (.int .i64 2) ∧ Below w.heap.size w w' := by
  have HRL : Hid (∀ s : Later (w.heap.size + 1) (w.alloc (.cells #[.int .i64 m.p, .int .i64 m.why, .int .i64 m.k, .int .i64 m.id, .int .i64 m.to, .int .u64 m.at_] 41)), Md s.W p q y) := Lib.hid fun s => h.below (Below.trans (by (focus (repeat' (first | (with_reducible exact Below.refl _ _) | (with_reducible assumption) | (with_reducible refine Below.alloc ?_ ?_ _) | (with_reducible refine below_drewN ?_ _) | (with_reducible refine Below.drew ?_) | (with_reducible refine Below.setCell ?_ ?_ _) | omega | (simp; done) | (simp; omega))))) (s.h.mono (by omega)))
  have hb1 : Blk (w.alloc (.cells #[.int .i64 m.p, .int .i64 m.why, .int .i64 m.k, .int .i64 m.id, .int .i64 m.to, .int .u64 m.at_] 41)) w.heap.size 41 #[.int .i64 m.p, .int .i64 m.why, .int .i64 m.k, .int .i64 m.id, .int .i64 m.to, .int .u64 m.at_] := Blk.mk_ w 41 _ _ rfl
  have c0 : ∀ s : Later (w.heap.size + 1) (w.alloc (.cells #[.int .i64 m.p, .int .i64 m.why, .int .i64 m.k, .int .i64 m.id, .int .i64 m.to, .int .u64 m.at_] 41)), s.W.cell? ⟨w.heap.size, 0, none⟩ = some (.int .i64 m.p) := fun s => ((hb1.below s.h (by omega)).at_ 0).trans rfl
  have c1 : ∀ s : Later (w.heap.size + 1) (w.alloc (.cells #[.int .i64 m.p, .int .i64 m.why, .int .i64 m.k, .int .i64 m.id, .int .i64 m.to, .int .u64 m.at_] 41)), s.W.cell? ⟨w.heap.size, 1, none⟩ = some (.int .i64 m.why) := fun s => ((hb1.below s.h (by omega)).at_ 1).trans rfl
  have c2 : ∀ s : Later (w.heap.size + 1) (w.alloc (.cells #[.int .i64 m.p, .int .i64 m.why, .int .i64 m.k, .int .i64 m.id, .int .i64 m.to, .int .u64 m.at_] 41)), s.W.cell? ⟨w.heap.size, 2, none⟩ = some (.int .i64 m.k) := fun s => ((hb1.below s.h (by omega)).at_ 2).trans rfl
  have c3 : ∀ s : Later (w.heap.size + 1) (w.alloc (.cells #[.int .i64 m.p, .int .i64 m.why, .int .i64 m.k, .int .i64 m.id, .int .i64 m.to, .int .u64 m.at_] 41)), s.W.cell? ⟨w.heap.size, 3, none⟩ = some (.int .i64 m.id) := fun s => ((hb1.below s.h (by omega)).at_ 3).trans rfl
  have c4 : ∀ s : Later (w.heap.size + 1) (w.alloc (.cells #[.int .i64 m.p, .int .i64 m.why, .int .i64 m.k, .int .i64 m.id, .int .i64 m.to, .int .u64 m.at_] 41)), s.W.cell? ⟨w.heap.size, 4, none⟩ = some (.int .i64 m.to) := fun s => ((hb1.below s.h (by omega)).at_ 4).trans rfl
  have c5 : ∀ s : Later (w.heap.size + 1) (w.alloc (.cells #[.int .i64 m.p, .int .i64 m.why, .int .i64 m.k, .int .i64 m.id, .int .i64 m.to, .int .u64 m.at_] 41)), s.W.cell? ⟨w.heap.size, 5, none⟩ = some (.int .u64 m.at_) := fun s => ((hb1.below s.h (by omega)).at_ 5).trans rfl
  have HK := Lib.hid hk
  clear h hb1 hk
  go_enter Try.func9, Try.ntmps9
  go_wp2
  refine wp_region_later (B := w.heap.size + 1) (w0 := w.alloc (.cells #[.int .i64 m.p, .int .i64 m.why, .int .i64 m.k, .int .i64 m.id, .int .i64 m.to, .int .u64 m.at_] 41)) (Below.refl _ _) (by kernel_rfl) (by kernel_rfl) ?_
  repeat (go_big_quiet_step ((first
    | (go_at_call 25; with_reducible exact Calls.later (by simp) (can_f HK.out _))
    | (go_at_call 26; with_reducible exact Calls.later (by simp) (mlast_any p q y _ (HRL.out _))))))
  refine wpQuiet_nil ?_
  intro _ hw'
  obtain ⟨s, hw2⟩ := hw'
  subst hw2
  obtain ⟨w2, hb2⟩ := s
  clear c0 c1 c2 c3 c4 c5 HRL
  go_wp2
  go_ret
  exact ⟨rfl, Below.trans (by (focus (repeat' (first | (with_reducible exact Below.refl _ _) | (with_reducible assumption) | (with_reducible refine Below.alloc ?_ ?_ _) | (with_reducible refine below_drewN ?_ _) | (with_reducible refine Below.drew ?_) | (with_reducible refine Below.setCell ?_ ?_ _) | omega | (simp; done) | (simp; omega))))) (hb2.mono (by omega))⟩

set_option maxRecDepth 100000 in
set_option maxHeartbeats 3200000 in
theorem add_bad2 (p : Nat) (q : St) (y : MdC) (m : MoveV) (w : World) (h : Md w p q y) (hk : keptB m = true) (hlt : m.at_ < q.last) : Calls Try.prog 9 #[.pointer (some ⟨p, 0, none⟩), .agg #[.int .i64 m.p, .int .i64 m.why, .int .i64 m.k, .int .i64 m.id, .int .i64 m.to, .int .u64 m.at_]] w fun e w' => e = .returned (.int .i64 2) ∧ Below w.heap.size w w' := by
  have HRL : Hid (∀ s : Later (w.heap.size + 1) (w.alloc (.cells #[.int .i64 m.p, .int .i64 m.why, .int .i64 m.k, .int .i64 m.id, .int .i64 m.to, .int .u64 m.at_] 41)), Md s.W p q y) := Lib.hid fun s => h.below (Below.trans (by (focus (repeat' (first | (with_reducible exact Below.refl _ _) | (with_reducible assumption) | (with_reducible refine Below.alloc ?_ ?_ _) | (with_reducible refine below_drewN ?_ _) | (with_reducible refine Below.drew ?_) | (with_reducible refine Below.setCell ?_ ?_ _) | omega | (simp; done) | (simp; omega))))) (s.h.mono (by omega)))
  have hb1 : Blk (w.alloc (.cells #[.int .i64 m.p, .int .i64 m.why, .int .i64 m.k, .int .i64 m.id, .int .i64 m.to, .int .u64 m.at_] 41)) w.heap.size 41 #[.int .i64 m.p, .int .i64 m.why, .int .i64 m.k, .int .i64 m.id, .int .i64 m.to, .int .u64 m.at_] := Blk.mk_ w 41 _ _ rfl
  have c0 : ∀ s : Later (w.heap.size + 1) (w.alloc (.cells #[.int .i64 m.p, .int .i64 m.why, .int .i64 m.k, .int .i64 m.id, .int .i64 m.to, .int .u64 m.at_] 41)), s.W.cell? ⟨w.heap.size, 0, none⟩ = some (.int .i64 m.p) := fun s => ((hb1.below s.h (by omega)).at_ 0).trans rfl
  have c1 : ∀ s : Later (w.heap.size + 1) (w.alloc (.cells #[.int .i64 m.p, .int .i64 m.why, .int .i64 m.k, .int .i64 m.id, .int .i64 m.to, .int .u64 m.at_] 41)), s.W.cell? ⟨w.heap.size, 1, none⟩ = some (.int .i64 m.why) := fun s => ((hb1.below s.h (by omega)).at_ 1).trans rfl
  have c2 : ∀ s : Later (w.heap.size + 1) (w.alloc (.cells #[.int .i64 m.p, .int .i64 m.why, .int .i64 m.k, .int .i64 m.id, .int .i64 m.to, .int .u64 m.at_] 41)), s.W.cell? ⟨w.heap.size, 2, none⟩ = some (.int .i64 m.k) := fun s => ((hb1.below s.h (by omega)).at_ 2).trans rfl
  have c3 : ∀ s : Later (w.heap.size + 1) (w.alloc (.cells #[.int .i64 m.p, .int .i64 m.why, .int .i64 m.k, .int .i64 m.id, .int .i64 m.to, .int .u64 m.at_] 41)), s.W.cell? ⟨w.heap.size, 3, none⟩ = some (.int .i64 m.id) := fun s => ((hb1.below s.h (by omega)).at_ 3).trans rfl
  have c4 : ∀ s : Later (w.heap.size + 1) (w.alloc (.cells #[.int .i64 m.p, .int .i64 m.why, .int .i64 m.k, .int .i64 m.id, .int .i64 m.to, .int .u64 m.at_] 41)), s.W.cell? ⟨w.heap.size, 4, none⟩ = some (.int .i64 m.to) := fun s => ((hb1.below s.h (by omega)).at_ 4).trans rfl
  have c5 : ∀ s : Later (w.heap.size + 1) (w.alloc (.cells #[.int .i64 m.p, .int .i64 m.why, .int .i64 m.k, .int .i64 m.id, .int .i64 m.to, .int .u64 m.at_] 41)), s.W.cell? ⟨w.heap.size, 5, none⟩ = some (.int .u64 m.at_) := fun s => ((hb1.below s.h (by omega)).at_ 5).trans rfl
  have HK := Lib.hid hk
  clear h hb1 hk
  go_enter Try.func9, Try.ntmps9
  go_wp2
  refine wp_region_later (B := w.heap.size + 1) (w0 := w.alloc (.cells #[.int .i64 m.p, .int .i64 m.why, .int .i64 m.k, .int .i64 m.id, .int .i64 m.to, .int .u64 m.at_] 41)) (Below.refl _ _) (by kernel_rfl) (by kernel_rfl) ?_
  repeat (go_big_quiet_step ((first
    | (go_at_call 25; with_reducible exact Calls.later (by simp) (can_t HK.out _))
    | (go_at_call 26; with_reducible exact Calls.later (by simp) (mlast_any p q y _ (HRL.out _))))))
  refine wpQuiet_nil ?_
  intro _ hw'
  obtain ⟨s, hw2⟩ := hw'
  subst hw2
  obtain ⟨w2, hb2⟩ := s
  clear c0 c1 c2 c3 c4 c5 HRL
  go_wp2
  go_ret
  exact ⟨rfl, Below.trans (by (focus (repeat' (first | (with_reducible exact Below.refl _ _) | (with_reducible assumption) | (with_reducible refine Below.alloc ?_ ?_ _) | (with_reducible refine below_drewN ?_ _) | (with_reducible refine Below.drew ?_) | (with_reducible refine Below.setCell ?_ ?_ _) | omega | (simp; done) | (simp; omega))))) (hb2.mono (by omega))⟩

set_option maxRecDepth 100000 in
set_option maxHeartbeats 3200000 in
theorem add_full (p : Nat) (q : St) (y : MdC) (m : MoveV) (w : World) (h : Md w p q y) (hf : fits q m) (hc : ¬ q.mv.length < 4096) : Calls Try.prog 9 #[.pointer (some ⟨p, 0, none⟩), .agg #[.int .i64 m.p, .int .i64 m.why, .int .i64 m.k, .int .i64 m.id, .int .i64 m.to, .int .u64 m.at_]] w fun e w' => e = .returned (.int .i64 7) ∧ Below w.heap.size w w' := by
  have HRL : Hid (∀ s : Later (w.heap.size + 1) (w.alloc (.cells #[.int .i64 m.p, .int .i64 m.why, .int .i64 m.k, .int .i64 m.id, .int .i64 m.to, .int .u64 m.at_] 41)), Md s.W p q y) := Lib.hid fun s => h.below (Below.trans (by (focus (repeat' (first | (with_reducible exact Below.refl _ _) | (with_reducible assumption) | (with_reducible refine Below.alloc ?_ ?_ _) | (with_reducible refine below_drewN ?_ _) | (with_reducible refine Below.drew ?_) | (with_reducible refine Below.setCell ?_ ?_ _) | omega | (simp; done) | (simp; omega))))) (s.h.mono (by omega)))
  have hb1 : Blk (w.alloc (.cells #[.int .i64 m.p, .int .i64 m.why, .int .i64 m.k, .int .i64 m.id, .int .i64 m.to, .int .u64 m.at_] 41)) w.heap.size 41 #[.int .i64 m.p, .int .i64 m.why, .int .i64 m.k, .int .i64 m.id, .int .i64 m.to, .int .u64 m.at_] := Blk.mk_ w 41 _ _ rfl
  have c0 : ∀ s : Later (w.heap.size + 1) (w.alloc (.cells #[.int .i64 m.p, .int .i64 m.why, .int .i64 m.k, .int .i64 m.id, .int .i64 m.to, .int .u64 m.at_] 41)), s.W.cell? ⟨w.heap.size, 0, none⟩ = some (.int .i64 m.p) := fun s => ((hb1.below s.h (by omega)).at_ 0).trans rfl
  have c1 : ∀ s : Later (w.heap.size + 1) (w.alloc (.cells #[.int .i64 m.p, .int .i64 m.why, .int .i64 m.k, .int .i64 m.id, .int .i64 m.to, .int .u64 m.at_] 41)), s.W.cell? ⟨w.heap.size, 1, none⟩ = some (.int .i64 m.why) := fun s => ((hb1.below s.h (by omega)).at_ 1).trans rfl
  have c2 : ∀ s : Later (w.heap.size + 1) (w.alloc (.cells #[.int .i64 m.p, .int .i64 m.why, .int .i64 m.k, .int .i64 m.id, .int .i64 m.to, .int .u64 m.at_] 41)), s.W.cell? ⟨w.heap.size, 2, none⟩ = some (.int .i64 m.k) := fun s => ((hb1.below s.h (by omega)).at_ 2).trans rfl
  have c3 : ∀ s : Later (w.heap.size + 1) (w.alloc (.cells #[.int .i64 m.p, .int .i64 m.why, .int .i64 m.k, .int .i64 m.id, .int .i64 m.to, .int .u64 m.at_] 41)), s.W.cell? ⟨w.heap.size, 3, none⟩ = some (.int .i64 m.id) := fun s => ((hb1.below s.h (by omega)).at_ 3).trans rfl
  have c4 : ∀ s : Later (w.heap.size + 1) (w.alloc (.cells #[.int .i64 m.p, .int .i64 m.why, .int .i64 m.k, .int .i64 m.id, .int .i64 m.to, .int .u64 m.at_] 41)), s.W.cell? ⟨w.heap.size, 4, none⟩ = some (.int .i64 m.to) := fun s => ((hb1.below s.h (by omega)).at_ 4).trans rfl
  have c5 : ∀ s : Later (w.heap.size + 1) (w.alloc (.cells #[.int .i64 m.p, .int .i64 m.why, .int .i64 m.k, .int .i64 m.id, .int .i64 m.to, .int .u64 m.at_] 41)), s.W.cell? ⟨w.heap.size, 5, none⟩ = some (.int .u64 m.at_) := fun s => ((hb1.below s.h (by omega)).at_ 5).trans rfl
  have hn := h.nm_eq
  have x3 := fun W (hb : Below w.heap.size w W) => ((h.below hb).blk.at_ 1).trans rfl
  have X3 := Lib.hid x3
  obtain ⟨hk, hlt, _⟩ := hf
  have HK := Lib.hid hk
  have hnm : (4096 : Int) ≤ y.nm := by omega
  clear h hb1 hk x3 hn
  go_enter Try.func9, Try.ntmps9
  go_wp2
  refine wp_region_later (B := w.heap.size + 1) (w0 := w.alloc (.cells #[.int .i64 m.p, .int .i64 m.why, .int .i64 m.k, .int .i64 m.id, .int .i64 m.to, .int .u64 m.at_] 41)) (Below.refl _ _) (by kernel_rfl) (by kernel_rfl) ?_
  repeat (go_big_quiet_step ((first
    | (go_at_call 25; with_reducible exact Calls.later (by simp) (can_t HK.out _))
    | (go_at_call 26; with_reducible exact Calls.later (by simp) (mlast_any p q y _ (HRL.out _))))))
  refine wpQuiet_nil ?_
  intro _ hw'
  obtain ⟨s, hw2⟩ := hw'
  subst hw2
  obtain ⟨w2, hb2⟩ := s
  clear c0 c1 c2 c3 c4 c5 HRL
  have hB2 : Below w.heap.size w w2 := Below.trans (by (focus (repeat' (first | (with_reducible exact Below.refl _ _) | (with_reducible assumption) | (with_reducible refine Below.alloc ?_ ?_ _) | (with_reducible refine below_drewN ?_ _) | (with_reducible refine Below.drew ?_) | (with_reducible refine Below.setCell ?_ ?_ _) | omega | (simp; done) | (simp; omega))))) (hb2.mono (by omega))
  have x3 := X3.out w2 hB2
  go_wp2
  go_ret
  exact ⟨rfl, hB2⟩

set_option maxRecDepth 100000 in
set_option maxHeartbeats 3200000 in
theorem add_ok (p : Nat) (q : St) (y : MdC) (m : MoveV) (w : World) (h : Md w p q y) (hf : fits q m) (hc : q.mv.length < 4096) (hsep : (0 < y.nm → blkOf y.M ≠ some p) ∧ (0 < y.ne → blkOf y.E ≠ some p) ∧ (0 < y.nd → blkOf y.D ≠ some p)) : Calls Try.prog 9 #[.pointer (some ⟨p, 0, none⟩), .agg #[.int .i64 m.p, .int .i64 m.why, .int .i64 m.k, .int .i64 m.id, .int .i64 m.to, .int .u64 m.at_]] w fun e w' => ∃ y', e = .returned (.int .i64 0) ∧ Md w' p (q.add m) y' ∧ OnlyF (fun i => i = p) w w' ∧ ∀ i, FootM p y' i → i = p ∨ w.heap.size ≤ i := by
  have HRL : Hid (∀ s : Later (w.heap.size + 1) (w.alloc (.cells #[.int .i64 m.p, .int .i64 m.why, .int .i64 m.k, .int .i64 m.id, .int .i64 m.to, .int .u64 m.at_] 41)), Md s.W p q y) := Lib.hid fun s => h.below (Below.trans (by (focus (repeat' (first | (with_reducible exact Below.refl _ _) | (with_reducible assumption) | (with_reducible refine Below.alloc ?_ ?_ _) | (with_reducible refine below_drewN ?_ _) | (with_reducible refine Below.drew ?_) | (with_reducible refine Below.setCell ?_ ?_ _) | omega | (simp; done) | (simp; omega))))) (s.h.mono (by omega)))
  have hb1 : Blk (w.alloc (.cells #[.int .i64 m.p, .int .i64 m.why, .int .i64 m.k, .int .i64 m.id, .int .i64 m.to, .int .u64 m.at_] 41)) w.heap.size 41 #[.int .i64 m.p, .int .i64 m.why, .int .i64 m.k, .int .i64 m.id, .int .i64 m.to, .int .u64 m.at_] := Blk.mk_ w 41 _ _ rfl
  have c0 : ∀ s : Later (w.heap.size + 1) (w.alloc (.cells #[.int .i64 m.p, .int .i64 m.why, .int .i64 m.k, .int .i64 m.id, .int .i64 m.to, .int .u64 m.at_] 41)), s.W.cell? ⟨w.heap.size, 0, none⟩ = some (.int .i64 m.p) := fun s => ((hb1.below s.h (by omega)).at_ 0).trans rfl
  have c1 : ∀ s : Later (w.heap.size + 1) (w.alloc (.cells #[.int .i64 m.p, .int .i64 m.why, .int .i64 m.k, .int .i64 m.id, .int .i64 m.to, .int .u64 m.at_] 41)), s.W.cell? ⟨w.heap.size, 1, none⟩ = some (.int .i64 m.why) := fun s => ((hb1.below s.h (by omega)).at_ 1).trans rfl
  have c2 : ∀ s : Later (w.heap.size + 1) (w.alloc (.cells #[.int .i64 m.p, .int .i64 m.why, .int .i64 m.k, .int .i64 m.id, .int .i64 m.to, .int .u64 m.at_] 41)), s.W.cell? ⟨w.heap.size, 2, none⟩ = some (.int .i64 m.k) := fun s => ((hb1.below s.h (by omega)).at_ 2).trans rfl
  have c3 : ∀ s : Later (w.heap.size + 1) (w.alloc (.cells #[.int .i64 m.p, .int .i64 m.why, .int .i64 m.k, .int .i64 m.id, .int .i64 m.to, .int .u64 m.at_] 41)), s.W.cell? ⟨w.heap.size, 3, none⟩ = some (.int .i64 m.id) := fun s => ((hb1.below s.h (by omega)).at_ 3).trans rfl
  have c4 : ∀ s : Later (w.heap.size + 1) (w.alloc (.cells #[.int .i64 m.p, .int .i64 m.why, .int .i64 m.k, .int .i64 m.id, .int .i64 m.to, .int .u64 m.at_] 41)), s.W.cell? ⟨w.heap.size, 4, none⟩ = some (.int .i64 m.to) := fun s => ((hb1.below s.h (by omega)).at_ 4).trans rfl
  have c5 : ∀ s : Later (w.heap.size + 1) (w.alloc (.cells #[.int .i64 m.p, .int .i64 m.why, .int .i64 m.k, .int .i64 m.id, .int .i64 m.to, .int .u64 m.at_] 41)), s.W.cell? ⟨w.heap.size, 5, none⟩ = some (.int .u64 m.at_) := fun s => ((hb1.below s.h (by omega)).at_ 5).trans rfl
  have HRB : Hid (∀ W, Below w.heap.size w W → Md W p q y) := Lib.hid fun W hb => h.below hb
  have hn := h.nm_eq
  have x3 := fun W (hb : Below w.heap.size w W) => ((h.below hb).blk.at_ 1).trans rfl
  have X3 := Lib.hid x3
  have HF := Lib.hid hf
  obtain ⟨hk, hlt, hat⟩ := hf
  have HK := Lib.hid hk
  have hnm : (y.nm : Int) < 4096 := by omega
  have hpw := h.blk.lt
  have HL := Lib.hid h.ok
  have HPM := Lib.hid hsep.1
  have HPE := Lib.hid hsep.2.1
  have HPD := Lib.hid hsep.2.2
  clear h hb1 hk x3 hn hsep
  go_enter Try.func9, Try.ntmps9
  go_wp2
  refine wp_region_later (B := w.heap.size + 1) (w0 := w.alloc (.cells #[.int .i64 m.p, .int .i64 m.why, .int .i64 m.k, .int .i64 m.id, .int .i64 m.to, .int .u64 m.at_] 41)) (Below.refl _ _) (by kernel_rfl) (by kernel_rfl) ?_
  repeat (go_big_quiet_step ((first
    | (go_at_call 25; with_reducible exact Calls.later (by simp) (can_t HK.out _))
    | (go_at_call 26; with_reducible exact Calls.later (by simp) (mlast_any p q y _ (HRL.out _))))))
  refine wpQuiet_nil ?_
  intro _ hw'
  obtain ⟨s, hw2⟩ := hw'
  subst hw2
  obtain ⟨w2, hb2⟩ := s
  have hk2 : Blk w2 w.heap.size 41 #[.int .i64 m.p, .int .i64 m.why, .int .i64 m.k, .int .i64 m.id, .int .i64 m.to, .int .u64 m.at_] := (Blk.mk_ w 41 _ _ rfl).below hb2 (by omega)
  have hz2 := hb2.size
  simp only [World.size_alloc] at hz2
  clear c0 c1 c2 c3 c4 c5 HRL
  have hB2 : Below w.heap.size w w2 := Below.trans (by (focus (repeat' (first | (with_reducible exact Below.refl _ _) | (with_reducible assumption) | (with_reducible refine Below.alloc ?_ ?_ _) | (with_reducible refine below_drewN ?_ _) | (with_reducible refine Below.drew ?_) | (with_reducible refine Below.setCell ?_ ?_ _) | omega | (simp; done) | (simp; omega))))) (hb2.mono (by omega))
  have x3 := X3.out w2 hB2
  go_wp2
  clear x3
  have HB2 := Lib.hid (HRB.out w2 hB2).blk
  have hgp : w.heap.size ≠ p := by omega
  have hNE : Nonempty (In (fun W => Blk W p 31 #[.int .u32 q.key, .slice y.M y.nm y.cm, .slice y.E y.ne y.ce, .slice y.D y.nd y.cd, .int .u32 q.sum] ∧ Blk W w.heap.size 41 #[.int .i64 m.p, .int .i64 m.why, .int .i64 m.k, .int .i64 m.id, .int .i64 m.to, .int .u64 m.at_])) := ⟨⟨_, HB2.out, hk2⟩⟩
  have c0 : ∀ s : In (fun W => Blk W p 31 #[.int .u32 q.key, .slice y.M y.nm y.cm, .slice y.E y.ne y.ce, .slice y.D y.nd y.cd, .int .u32 q.sum] ∧ Blk W w.heap.size 41 #[.int .i64 m.p, .int .i64 m.why, .int .i64 m.k, .int .i64 m.id, .int .i64 m.to, .int .u64 m.at_]), s.W.cell? ⟨w.heap.size, 0, none⟩ = some (.int .i64 m.p) := fun s => (s.h.2.at_ 0).trans rfl
  have c1 : ∀ s : In (fun W => Blk W p 31 #[.int .u32 q.key, .slice y.M y.nm y.cm, .slice y.E y.ne y.ce, .slice y.D y.nd y.cd, .int .u32 q.sum] ∧ Blk W w.heap.size 41 #[.int .i64 m.p, .int .i64 m.why, .int .i64 m.k, .int .i64 m.id, .int .i64 m.to, .int .u64 m.at_]), s.W.cell? ⟨w.heap.size, 1, none⟩ = some (.int .i64 m.why) := fun s => (s.h.2.at_ 1).trans rfl
  have c2 : ∀ s : In (fun W => Blk W p 31 #[.int .u32 q.key, .slice y.M y.nm y.cm, .slice y.E y.ne y.ce, .slice y.D y.nd y.cd, .int .u32 q.sum] ∧ Blk W w.heap.size 41 #[.int .i64 m.p, .int .i64 m.why, .int .i64 m.k, .int .i64 m.id, .int .i64 m.to, .int .u64 m.at_]), s.W.cell? ⟨w.heap.size, 2, none⟩ = some (.int .i64 m.k) := fun s => (s.h.2.at_ 2).trans rfl
  have c3 : ∀ s : In (fun W => Blk W p 31 #[.int .u32 q.key, .slice y.M y.nm y.cm, .slice y.E y.ne y.ce, .slice y.D y.nd y.cd, .int .u32 q.sum] ∧ Blk W w.heap.size 41 #[.int .i64 m.p, .int .i64 m.why, .int .i64 m.k, .int .i64 m.id, .int .i64 m.to, .int .u64 m.at_]), s.W.cell? ⟨w.heap.size, 3, none⟩ = some (.int .i64 m.id) := fun s => (s.h.2.at_ 3).trans rfl
  have c4 : ∀ s : In (fun W => Blk W p 31 #[.int .u32 q.key, .slice y.M y.nm y.cm, .slice y.E y.ne y.ce, .slice y.D y.nd y.cd, .int .u32 q.sum] ∧ Blk W w.heap.size 41 #[.int .i64 m.p, .int .i64 m.why, .int .i64 m.k, .int .i64 m.id, .int .i64 m.to, .int .u64 m.at_]), s.W.cell? ⟨w.heap.size, 4, none⟩ = some (.int .i64 m.to) := fun s => (s.h.2.at_ 4).trans rfl
  have c5 : ∀ s : In (fun W => Blk W p 31 #[.int .u32 q.key, .slice y.M y.nm y.cm, .slice y.E y.ne y.ce, .slice y.D y.nd y.cd, .int .u32 q.sum] ∧ Blk W w.heap.size 41 #[.int .i64 m.p, .int .i64 m.why, .int .i64 m.k, .int .i64 m.id, .int .i64 m.to, .int .u64 m.at_]), s.W.cell? ⟨w.heap.size, 5, none⟩ = some (.int .u64 m.at_) := fun s => (s.h.2.at_ 5).trans rfl
  have e4 : ∀ s : In (fun W => Blk W p 31 #[.int .u32 q.key, .slice y.M y.nm y.cm, .slice y.E y.ne y.ce, .slice y.D y.nd y.cd, .int .u32 q.sum] ∧ Blk W w.heap.size 41 #[.int .i64 m.p, .int .i64 m.why, .int .i64 m.k, .int .i64 m.id, .int .i64 m.to, .int .u64 m.at_]), s.W.cell? ⟨p, 4, none⟩ = some (.int .u32 q.sum) := fun s => (s.h.1.at_ 4).trans rfl
  refine wp_region_sched (fun w' => ∃ s : In (fun W => Blk W p 31 #[.int .u32 q.key, .slice y.M y.nm y.cm, .slice y.E y.ne y.ce, .slice y.D y.nd y.cd, .int .u32 q.sum] ∧ Blk W w.heap.size 41 #[.int .i64 m.p, .int .i64 m.why, .int .i64 m.k, .int .i64 m.id, .int .i64 m.to, .int .u64 m.at_]), w' = s.W) [0,1,3,4,5,6] (.one 2 [] (.one 7 [8] .done)) (by kernel_rfl) (by kernel_rfl) (fun d _ _ _ _ h => by cases d <;> exact h) ⟨⟨_, HB2.out.drew, hk2.drew⟩, rfl⟩ ?_
  simp only [opsAt, List.getElem?_toArray, List.getElem?_cons_succ, List.getElem?_cons_zero]
  repeat (go_big_quiet_step (fail))
  refine wpQuiet_nil ?_
  (refine eff_lit rfl rfl (fun K hK => ?_))
  go_big_op
  refine (mlast_any p q y _ (HRB.out _ (by (focus (repeat' (first | (with_reducible exact Below.refl _ _) | (with_reducible assumption) | (with_reducible refine Below.alloc ?_ ?_ _) | (with_reducible refine below_drewN ?_ _) | (with_reducible refine Below.drew ?_) | (with_reducible refine Below.setCell ?_ ?_ _) | omega | (simp; done) | (simp; omega))))))).mono ?_
  rintro e w3 ⟨rfl, hb3⟩
  have hb3' : Below w2.heap.size w2 w3 := Below.trans (by (focus (repeat' (first | (with_reducible exact Below.refl _ _) | (with_reducible assumption) | (with_reducible refine Below.alloc ?_ ?_ _) | (with_reducible refine below_drewN ?_ _) | (with_reducible refine Below.drew ?_) | (with_reducible refine Below.setCell ?_ ?_ _) | omega | (simp; done) | (simp; omega))))) (hb3.mono (by (focus (first | omega | (simp only [World.size_alloc]; done) | (simp only [World.size_alloc]; omega) | (simp; done) | (simp; omega)))))
  refine hK _ _ ⟨⟨_, HB2.out.call hb3', hk2.call hb3'⟩, rfl⟩ ?_
  clear hK K
  simp only [opsAt, List.getElem?_toArray, List.getElem?_cons_succ, List.getElem?_cons_zero]
  refine wpQuiet_nil ?_
  (refine eff_lit rfl rfl (fun K hK => ?_))
  go_big_op
  have hz3 := hb3'.size
  refine (lrec_any m q.last q.sum _ HK.out HL.out.last0.1 hlt hat HL.out.sum0.1 HL.out.sum0.2).mono ?_
  rintro e w4 ⟨A4, cc4, rfl, ho4, hb4⟩
  have hb4' : Below w2.heap.size w2 w4 := hb3'.trans (hb4.mono hz3)
  refine hK _ _ ⟨⟨_, HB2.out.call hb4', hk2.call hb4'⟩, rfl⟩ ?_
  clear hK K
  simp only [opsAt, List.getElem?_toArray, List.getElem?_cons_succ, List.getElem?_cons_zero]
  repeat (go_big_quiet_step (fail))
  refine wpQuiet_nil ?_
  refine effs_done ?_
  clear e4 c0 c1 c2 c3 c4 c5
  go_wp2
  have HY2 := HRB.out w4 (hB2.trans (hb4'.mono (by omega)))
  have HY := Lib.hid HY2
  have hcap4 : (recS q.last q.sum m).length ≤ cc4 ∧ cc4 ≤ 9223372036854775807 := by
    rcases ho4.1.2 with ⟨_, h0⟩ | ⟨g', c', cur, h1, _, _, h2, h3, _⟩
    · have := rec_len q.last q.sum m; omega
    · injection h1 with _ _ h1
      unfold maxLen at h3
      omega
  obtain ⟨g4, hA4, hg4a, hg4b⟩ := ho4.head (by have := rec_len q.last q.sum m; omega)
  subst hA4
  have HO4 := Lib.hid ho4
  have hrl := rec_len q.last q.sum m
  have hhl := hdr_le (t := q.last) (m := m) HK.out HL.out.last0.1 hat
  have HT4 : Hid ((recS q.last q.sum m).take (hdrS q.last m).length = hdrS q.last m) := Lib.hid (by simp [recS])
  generalize hrle : (recS q.last q.sum m).length = rl at *
  generalize hhle : (hdrS q.last m).length = hl at *
  subst hrl
  have HHL := Lib.hid hhle
  have HRL2 := Lib.hid hrle
  clear hrle hhle ho4 HY2
  have B4 := Lib.hid HY.out.blk
  have hk4 := hk2.call hb4'
  have hp4 := HY.out.blk.lt
  obtain ⟨hcap5, hcap6⟩ := hcap4
  have hB4 : Below w.heap.size w w4 := hB2.trans (hb4'.mono (by omega))
  have e4 : ∀ s : In (fun W => Blk W p 31 #[.int .u32 q.key, .slice y.M y.nm y.cm, .slice y.E y.ne y.ce, .slice y.D y.nd y.cd, .int .u32 q.sum] ∧ Blk W w.heap.size 41 #[.int .i64 m.p, .int .i64 m.why, .int .i64 m.k, .int .i64 m.id, .int .i64 m.to, .int .u64 m.at_]), s.W.cell? ⟨p, 4, none⟩ = some (.int .u32 q.sum) := fun s => (s.h.1.at_ 4).trans rfl
  have hpR : g4 ≠ p := by omega
  clear HB2 hk2 hb2 hb3 hb3' hb4 hb4' hB2 hz2 hz3
  refine wp_region_late (Ph (fun w' => ∃ s : In (fun W => Blk W p 31 #[.int .u32 q.key, .slice y.M y.nm y.cm, .slice y.E y.ne y.ce, .slice y.D y.nd y.cd, .int .u32 q.sum] ∧ Blk W w.heap.size 41 #[.int .i64 m.p, .int .i64 m.why, .int .i64 m.k, .int .i64 m.id, .int .i64 m.to, .int .u64 m.at_]), w' = s.W) (fun _ => True)) [13] [0,1,2,3,4,5,6,7,8,9] (.one 10 [11,12] (.one 13 [] .done)) (by kernel_rfl) (by kernel_rfl) (fun d _ _ _ _ h => by cases d <;> exact h) ⟨⟨_, B4.out.drew, hk4.drew⟩, rfl⟩ ?_
  refine quiet_as (C' := (fun w' => ∃ s : In (fun W => Blk W p 31 #[.int .u32 q.key, .slice y.M y.nm y.cm, .slice y.E y.ne y.ce, .slice y.D y.nd y.cd, .int .u32 q.sum] ∧ Blk W w.heap.size 41 #[.int .i64 m.p, .int .i64 m.why, .int .i64 m.k, .int .i64 m.id, .int .i64 m.to, .int .u64 m.at_]), w' = s.W)) rfl ?_
  simp only [opsAt, List.getElem?_toArray, List.getElem?_cons_succ, List.getElem?_cons_zero]
  repeat (go_big_quiet_step (fail))
  refine wpQuiet_nil ?_
  refine eff_as (C' := (fun w' => ∃ s : In (fun W => Blk W p 31 #[.int .u32 q.key, .slice y.M y.nm y.cm, .slice y.E y.ne y.ce, .slice y.D y.nd y.cd, .int .u32 q.sum] ∧ Blk W w.heap.size 41 #[.int .i64 m.p, .int .i64 m.why, .int .i64 m.k, .int .i64 m.id, .int .i64 m.to, .int .u64 m.at_]), w' = s.W)) rfl ?_
  (refine eff_lit rfl rfl (fun K hK => ?_))
  go_big_op
  refine (sum_any q.sum _ hl cc4 (hdrS q.last m) _ HL.out.sum0.1 HL.out.sum0.2 (by rw [← HT4.out]; exact BReads.head (HO4.out.drew.reads) (by omega)) (by omega)).mono ?_
  rintro e w5 ⟨rfl, rfl⟩
  refine hK _ _ ⟨⟨_, B4.out.drew, hk4.drew⟩, rfl⟩ ?_
  clear hK K
  simp only [opsAt, List.getElem?_toArray, List.getElem?_cons_succ, List.getElem?_cons_zero]
  repeat (go_big_quiet_step (fail))
  refine wpQuiet_nil ?_
  have q4 := (B4.out.at_ 4).trans rfl
  have f4 := B4.out.free 4
  refine eff_as (C' := fun _ => True) rfl ?_
  (refine eff_lit rfl rfl (fun K hK => ?_))
  go_big_op
  refine hK _ _ trivial ?_
  clear hK K q4 f4 e4
  simp only [opsAt, List.getElem?_toArray, List.getElem?_cons_succ, List.getElem?_cons_zero]
  refine wpQuiet_nil ?_
  refine effs_done ?_
  --@@REGION7
  have HSM : Hid (sumS q.sum (hdrS q.last m) = (q.add m).sum) := Lib.hid rfl
  generalize sumS q.sum (hdrS q.last m) = u at *
  have hpM : 0 < y.nm → blkOf y.M ≠ some p := HPM.out
  have hpE : 0 < y.ne → blkOf y.E ≠ some p := HPE.out
  have hpD : 0 < y.nd → blkOf y.D ≠ some p := HPD.out
  have M5 : MidM w ((w4.setCell ⟨p, 4, none⟩ (.int .u32 u)).drew) p w.heap.size #[.int .u32 q.key, .slice y.M y.nm y.cm, .slice y.E y.ne y.ce, .slice y.D y.nd y.cd, .int .u32 u] #[.int .i64 m.p, .int .i64 m.why, .int .i64 m.k, .int .i64 m.id, .int .i64 m.to, .int .u64 m.at_] q y g4 (hl + 4) (recS q.last q.sum m) := ((MidM.mk (w := w) (W := w4) B4.out hk4 HY.out.mv.1 HY.out.ends.1 HY.out.data.1 HO4.out.reads (OnlyF.of_below hB4)).put 4 (.int .u32 u) hgp hpM hpE hpD hpR).below ((Below.refl _ _).drew)
  have hzz : ((w4.setCell ⟨p, 4, none⟩ (.int .u32 u)).drew).heap.size = w4.heap.size := by simp [World.setCell]
  have hz5 : w.heap.size ≤ ((w4.setCell ⟨p, 4, none⟩ (.int .u32 u)).drew).heap.size := M5.O.size
  clear hzz
  generalize (w4.setCell ⟨p, 4, none⟩ (.int .u32 u)).drew = w5 at *
  have hA1 := HY.out.mv.2
  have hA2 := HY.out.ends.2
  have hA3 := HY.out.data.2
  have hnds : y.nd ≤ 100000 := by have h1 := HY.out.nd_eq; have h2 := HL.out.len; have h3 := HL.out.cnt; omega
  have hnes : y.ne ≤ 4096 := by have h1 := HY.out.ne_eq; have h3 := HL.out.cnt; omega
  have HEQ := Lib.hid (And.intro HY.out.nm_eq (And.intro HY.out.ne_eq HY.out.nd_eq))
  have HA1 := Lib.hid hA1
  have HA2 := Lib.hid hA2
  have HA3 := Lib.hid hA3
  have q3 := (M5.P.at_ 3).trans rfl
  have f3 := M5.P.free 3
  have hp5 := M5.P.lt
  have M5 := Lib.hid M5
  clear hA1 hA2 hA3 B4 hk4 HO4 hB4 hp4 hg4a hg4b HY
  go_wp2_with (first
    | (at_builtin; refine append_nil (w := w5) ?_ (.const (.slice none 0 0)) (.tmp 47) 23 ?_ 5 (.int .u8 0) 1 1 Try.info5 Try.underlying23 rfl (by decide) ?_ y.D y.nd y.cd (bys q.data) ?_ HA3.out M5.out.data.1 (bys_one _) ?_ ?_ ?_; rfl; rfl; rfl; rfl; omega; omega; intro D6 c6 w6 ho6 hb6; have M6 := Lib.hid (M5.out.below hb6); have ho6' := Lib.hid (ho6.b M5.out.data.2))
    | (at_builtin; refine append_bytes _ ?_ (.tmp 48) (.tmp 49) 23 ?_ w5.heap.size 5 Try.info5 Try.underlying23 D6 y.nd c6 q.data ?_ ho6'.out (some ⟨g4, 0, none⟩) (hl + 4) cc4 (recS q.last q.sum m) ?_ (fun h => by cases h) M6.out.R ?_ ?_ ?_; rfl; rfl; rfl; rfl; omega; (have := hb6.size; omega); intro D7 c7 w7 ho7 hb7; have M7 := Lib.hid (M5.out.below (hb6.trans hb7)); have hz7 : w5.heap.size ≤ w7.heap.size := (hb6.trans hb7).size; have q3 := (M7.out.P.at_ 3).trans rfl; have f3 := M7.out.P.free 3; have hp7 := M7.out.P.lt)
    | fail)
  clear q3 f3
  have M8 : MidM w (w7.setCell ⟨p, 3, none⟩ (.slice D7 (y.nd + (hl + 4)) c7)) p w.heap.size #[.int .u32 q.key, .slice y.M y.nm y.cm, .slice y.E y.ne y.ce, .slice D7 (y.nd + (hl + 4)) c7, .int .u32 u] #[.int .i64 m.p, .int .i64 m.why, .int .i64 m.k, .int .i64 m.id, .int .i64 m.to, .int .u64 m.at_] q y g4 (hl + 4) (recS q.last q.sum m) := M7.out.put 3 (.slice D7 (y.nd + (hl + 4)) c7) hgp hpM hpE hpD hpR
  have hgD : ∀ g, blkOf D7 = some g → g ≠ p := fun g hg => by have := own_blk ho7 g hg; omega
  have ho8 : BOwns (w7.setCell ⟨p, 3, none⟩ (.slice D7 (y.nd + (hl + 4)) c7)) w5.heap.size 5 D7 (y.nd + (hl + 4)) c7 (q.data ++ recS q.last q.sum m) := ho7.grown (only_setCell (only_refl _ _) (.inl rfl) _) (by
    rcases hD : blkOf D7 with _ | g
    · exact .inl rfl
    · exact .inr (fun h => hgD g hD (by injection h)))
  have hz8 : w5.heap.size ≤ (w7.setCell ⟨p, 3, none⟩ (.slice D7 (y.nd + (hl + 4)) c7)).heap.size := by simpa [World.setCell] using hz7
  have hp8 : p < (w7.setCell ⟨p, 3, none⟩ (.slice D7 (y.nd + (hl + 4)) c7)).heap.size := by simpa [World.setCell] using hp7
  generalize w7.setCell ⟨p, 3, none⟩ (.slice D7 (y.nd + (hl + 4)) c7) = w8 at *
  have HO8 := Lib.hid ho8
  have M8 := Lib.hid M8
  clear M5 M6 M7 ho6 ho6' hb6 hb7 ho7 hgD ho8 hz7 hp7 hp5
  have hNE8 : Nonempty (In (fun W => Blk W p 31 #[.int .u32 q.key, .slice y.M y.nm y.cm, .slice y.E y.ne y.ce, .slice D7 (y.nd + (hl + 4)) c7, .int .u32 u] ∧ Blk W w.heap.size 41 #[.int .i64 m.p, .int .i64 m.why, .int .i64 m.k, .int .i64 m.id, .int .i64 m.to, .int .u64 m.at_])) := ⟨⟨_, M8.out.P, M8.out.G⟩⟩
  have c0 : ∀ s : In (fun W => Blk W p 31 #[.int .u32 q.key, .slice y.M y.nm y.cm, .slice y.E y.ne y.ce, .slice D7 (y.nd + (hl + 4)) c7, .int .u32 u] ∧ Blk W w.heap.size 41 #[.int .i64 m.p, .int .i64 m.why, .int .i64 m.k, .int .i64 m.id, .int .i64 m.to, .int .u64 m.at_]), s.W.cell? ⟨w.heap.size, 0, none⟩ = some (.int .i64 m.p) := fun s => (s.h.2.at_ 0).trans rfl
  have c1 : ∀ s : In (fun W => Blk W p 31 #[.int .u32 q.key, .slice y.M y.nm y.cm, .slice y.E y.ne y.ce, .slice D7 (y.nd + (hl + 4)) c7, .int .u32 u] ∧ Blk W w.heap.size 41 #[.int .i64 m.p, .int .i64 m.why, .int .i64 m.k, .int .i64 m.id, .int .i64 m.to, .int .u64 m.at_]), s.W.cell? ⟨w.heap.size, 1, none⟩ = some (.int .i64 m.why) := fun s => (s.h.2.at_ 1).trans rfl
  have c2 : ∀ s : In (fun W => Blk W p 31 #[.int .u32 q.key, .slice y.M y.nm y.cm, .slice y.E y.ne y.ce, .slice D7 (y.nd + (hl + 4)) c7, .int .u32 u] ∧ Blk W w.heap.size 41 #[.int .i64 m.p, .int .i64 m.why, .int .i64 m.k, .int .i64 m.id, .int .i64 m.to, .int .u64 m.at_]), s.W.cell? ⟨w.heap.size, 2, none⟩ = some (.int .i64 m.k) := fun s => (s.h.2.at_ 2).trans rfl
  have c3 : ∀ s : In (fun W => Blk W p 31 #[.int .u32 q.key, .slice y.M y.nm y.cm, .slice y.E y.ne y.ce, .slice D7 (y.nd + (hl + 4)) c7, .int .u32 u] ∧ Blk W w.heap.size 41 #[.int .i64 m.p, .int .i64 m.why, .int .i64 m.k, .int .i64 m.id, .int .i64 m.to, .int .u64 m.at_]), s.W.cell? ⟨w.heap.size, 3, none⟩ = some (.int .i64 m.id) := fun s => (s.h.2.at_ 3).trans rfl
  have c4 : ∀ s : In (fun W => Blk W p 31 #[.int .u32 q.key, .slice y.M y.nm y.cm, .slice y.E y.ne y.ce, .slice D7 (y.nd + (hl + 4)) c7, .int .u32 u] ∧ Blk W w.heap.size 41 #[.int .i64 m.p, .int .i64 m.why, .int .i64 m.k, .int .i64 m.id, .int .i64 m.to, .int .u64 m.at_]), s.W.cell? ⟨w.heap.size, 4, none⟩ = some (.int .i64 m.to) := fun s => (s.h.2.at_ 4).trans rfl
  have c5 : ∀ s : In (fun W => Blk W p 31 #[.int .u32 q.key, .slice y.M y.nm y.cm, .slice y.E y.ne y.ce, .slice D7 (y.nd + (hl + 4)) c7, .int .u32 u] ∧ Blk W w.heap.size 41 #[.int .i64 m.p, .int .i64 m.why, .int .i64 m.k, .int .i64 m.id, .int .i64 m.to, .int .u64 m.at_]), s.W.cell? ⟨w.heap.size, 5, none⟩ = some (.int .u64 m.at_) := fun s => (s.h.2.at_ 5).trans rfl
  have e1 : ∀ s : In (fun W => Blk W p 31 #[.int .u32 q.key, .slice y.M y.nm y.cm, .slice y.E y.ne y.ce, .slice D7 (y.nd + (hl + 4)) c7, .int .u32 u] ∧ Blk W w.heap.size 41 #[.int .i64 m.p, .int .i64 m.why, .int .i64 m.k, .int .i64 m.id, .int .i64 m.to, .int .u64 m.at_]), s.W.cell? ⟨p, 1, none⟩ = some (.slice y.M y.nm y.cm) := fun s => (s.h.1.at_ 1).trans rfl
  go_cut [0, 3] (fun a b W => a = .pointer (some ⟨p, 0, none⟩) ∧ b = .pointer (some ⟨w.heap.size, 0, none⟩) ∧ Hid (∃ gM cM : Nat, XOwns W w8.heap.size 41 6 (some ⟨gM, 0, none⟩) (y.nm + 1) cM (mcells (q.mv ++ [m])) ∧ MidM w W p w.heap.size #[.int .u32 q.key, .slice (some ⟨gM, 0, none⟩) (y.nm + 1) cM, .slice y.E y.ne y.ce, .slice D7 (y.nd + (hl + 4)) c7, .int .u32 u] #[.int .i64 m.p, .int .i64 m.why, .int .i64 m.k, .int .i64 m.id, .int .i64 m.to, .int .u64 m.at_] q y g4 (hl + 4) (recS q.last q.sum m) ∧ BOwns W w5.heap.size 5 D7 (y.nd + (hl + 4)) c7 (q.data ++ recS q.last q.sum m) ∧ w8.heap.size ≤ W.heap.size))
  case first =>
    refine wp_region_late (Ph (fun w' => ∃ s : In (fun W => Blk W p 31 #[.int .u32 q.key, .slice y.M y.nm y.cm, .slice y.E y.ne y.ce, .slice D7 (y.nd + (hl + 4)) c7, .int .u32 u] ∧ Blk W w.heap.size 41 #[.int .i64 m.p, .int .i64 m.why, .int .i64 m.k, .int .i64 m.id, .int .i64 m.to, .int .u64 m.at_]), w' = s.W) (fun _ => True)) [11] [0,1,2,3,4,6] (.two 5 [] (.one 7 [] (.one 8 [9,10] (.one 11 [] .done))) 7 [] (.one 5 [] (.one 8 [9,10] (.one 11 [] .done)))) (by kernel_rfl) (by kernel_rfl) (fun d _ _ _ _ h => by cases d <;> exact h) ⟨⟨_, M8.out.P.drew, M8.out.G.drew⟩, rfl⟩ ?_
    refine quiet_as (C' := (fun w' => ∃ s : In (fun W => Blk W p 31 #[.int .u32 q.key, .slice y.M y.nm y.cm, .slice y.E y.ne y.ce, .slice D7 (y.nd + (hl + 4)) c7, .int .u32 u] ∧ Blk W w.heap.size 41 #[.int .i64 m.p, .int .i64 m.why, .int .i64 m.k, .int .i64 m.id, .int .i64 m.to, .int .u64 m.at_]), w' = s.W)) rfl ?_
    simp only [opsAt, List.getElem?_toArray, List.getElem?_cons_succ, List.getElem?_cons_zero]
    repeat (go_big_quiet_step (fail))
    refine wpQuiet_nil ?_
    clear e1 c0 c1 c2 c3 c4 c5
    have M9 := Lib.hid (M8.out.below ((Below.refl _ _).drew))
    have hz9 : w8.drew.heap.size = w8.heap.size := by simp
    refine (show ∀ A B : Prop, A → B → A ∧ B from fun _ _ a b => ⟨a, b⟩) _ _ ?_ ?_
    · refine eff_as (C' := (fun w' => ∃ s : In (fun W => Blk W p 31 #[.int .u32 q.key, .slice y.M y.nm y.cm, .slice y.E y.ne y.ce, .slice D7 (y.nd + (hl + 4)) c7, .int .u32 u] ∧ Blk W w.heap.size 41 #[.int .i64 m.p, .int .i64 m.why, .int .i64 m.k, .int .i64 m.id, .int .i64 m.to, .int .u64 m.at_]), w' = s.W)) rfl ?_
      (refine eff_lit rfl rfl (fun K hK => ?_))
      refine append_nil_op (w := w8.drew) (.const (.slice none 0 0)) (.tmp 57) 26 rfl 41 (.agg #[.int .i64 0, .int .i64 0, .int .i64 0, .int .i64 0, .int .i64 0, .int .u64 0]) 6 48 Try.info41 Try.underlying26 rfl (by decide) ?_ y.M y.nm y.cm (mcells q.mv) ?_ HA1.out M9.out.mv (mcells_one _) ?_ ?_ ?_
      · rfl
      · rfl
      · omega
      · omega
      intro DM cDM w9 hoM0 hb9
      simp only [Act.put, List.setIfInBounds_toArray, List.set_cons_succ, List.set_cons_zero]
      have M10 := Lib.hid (M9.out.below hb9)
      refine hK _ _ ⟨⟨_, M10.out.P, M10.out.G⟩, rfl⟩ ?_
      clear hK K
      simp only [opsAt, List.getElem?_toArray, List.getElem?_cons_succ, List.getElem?_cons_zero]
      refine wpQuiet_nil ?_
      refine eff_as (C' := (fun w' => ∃ s : In (fun W => Blk W p 31 #[.int .u32 q.key, .slice y.M y.nm y.cm, .slice y.E y.ne y.ce, .slice D7 (y.nd + (hl + 4)) c7, .int .u32 u] ∧ Blk W w.heap.size 41 #[.int .i64 m.p, .int .i64 m.why, .int .i64 m.k, .int .i64 m.id, .int .i64 m.to, .int .u64 m.at_]), w' = s.W)) rfl ?_
      (refine eff_lit rfl rfl (fun K hK => ?_))
      go_big_op
      have M11 := Lib.hid (M10.out.below ((Below.refl _ _).alloc (Nat.le_refl _) (.cells #[.int .i64 m.p, .int .i64 m.why, .int .i64 m.k, .int .i64 m.id, .int .i64 m.to, .int .u64 m.at_] 41)))
      have S2 : Blk (w9.alloc (.cells #[.int .i64 m.p, .int .i64 m.why, .int .i64 m.k, .int .i64 m.id, .int .i64 m.to, .int .u64 m.at_] 41)) (w9.heap.size) 41 #[.int .i64 m.p, .int .i64 m.why, .int .i64 m.k, .int .i64 m.id, .int .i64 m.to, .int .u64 m.at_] := Blk.mk_ _ 41 _ _ (by simp)
      refine hK _ _ ⟨⟨_, M11.out.P, M11.out.G⟩, rfl⟩ ?_
      clear hK K
      simp only [opsAt, List.getElem?_toArray, List.getElem?_cons_succ, List.getElem?_cons_zero]
      refine wpQuiet_nil ?_
      have hz90 := hb9.size
      rw [hz9] at hz90 hoM0
      refine eff_as (C' := (fun w' => ∃ s : In (fun W => Blk W p 31 #[.int .u32 q.key, .slice y.M y.nm y.cm, .slice y.E y.ne y.ce, .slice D7 (y.nd + (hl + 4)) c7, .int .u32 u] ∧ Blk W w.heap.size 41 #[.int .i64 m.p, .int .i64 m.why, .int .i64 m.k, .int .i64 m.id, .int .i64 m.to, .int .u64 m.at_]), w' = s.W)) rfl ?_
      (refine eff_lit rfl rfl (fun K hK => ?_))
      refine append_x_op (w := (w9.alloc (.cells #[.int .i64 m.p, .int .i64 m.why, .int .i64 m.k, .int .i64 m.id, .int .i64 m.to, .int .u64 m.at_] 41))) (.tmp 58) (.tmp 60) 26 rfl w8.heap.size 41 (.agg #[.int .i64 0, .int .i64 0, .int .i64 0, .int .i64 0, .int .i64 0, .int .u64 0]) 6 48 Try.info41 Try.underlying26 rfl (by decide) DM y.nm cDM (mcells q.mv) ?_ (hoM0.below ((Below.refl _ _).alloc (Nat.le_refl _) (.cells #[.int .i64 m.p, .int .i64 m.why, .int .i64 m.k, .int .i64 m.id, .int .i64 m.to, .int .u64 m.at_] 41))) (some ⟨w9.heap.size, 0, none⟩) 1 1 m.cells ?_ (reads_block S2 6 1 rfl) (by simp [MoveV.cells, Value.oneCell']) (by decide) ?_ ?_ ?_ _ rfl ?_
      · rfl
      · rfl
      · omega
      · omega
      · (first | omega | (simp; omega))
      intro gM cM w10 hoM hgM hiM hltM
      simp only [Act.put, List.setIfInBounds_toArray, List.set_cons_succ, List.set_cons_zero]
      have hbM : Below w8.heap.size (w9.alloc (.cells #[.int .i64 m.p, .int .i64 m.why, .int .i64 m.k, .int .i64 m.id, .int .i64 m.to, .int .u64 m.at_] 41)) w10 := grown_below hgM (by (first | omega | (simp; omega))) (fun g hg => ((hoM0.below ((Below.refl _ _).alloc (Nat.le_refl _) (.cells #[.int .i64 m.p, .int .i64 m.why, .int .i64 m.k, .int .i64 m.id, .int .i64 m.to, .int .u64 m.at_] 41))).lt g hg).1)
      have hbW : Below w8.heap.size w8 w10 := (Below.trans ((Below.refl _ _).drew) hb9).trans (Below.trans ((Below.refl _ _).alloc (by omega) (.cells #[.int .i64 m.p, .int .i64 m.why, .int .i64 m.k, .int .i64 m.id, .int .i64 m.to, .int .u64 m.at_] 41)) hbM)
      have M12 := Lib.hid (M8.out.below hbW)
      refine hK _ _ ⟨⟨_, M12.out.P, M12.out.G⟩, rfl⟩ ?_
      clear hK K
      simp only [opsAt, List.getElem?_toArray, List.getElem?_cons_succ, List.getElem?_cons_zero]
      repeat (go_big_quiet_step (fail))
      refine wpQuiet_nil ?_
      have q1 := (M12.out.P.at_ 1).trans rfl
      have f1 := M12.out.P.free 1
      have hp10 := M12.out.P.lt
      refine eff_as (C' := fun _ => True) rfl ?_
      (refine eff_lit rfl rfl (fun K hK => ?_))
      go_big_op
      refine hK _ _ trivial ?_
      clear hK K q1 f1
      simp only [opsAt, List.getElem?_toArray, List.getElem?_cons_succ, List.getElem?_cons_zero]
      refine wpQuiet_nil ?_
      refine effs_done ?_
      rw [← mcells_snoc] at hoM
      have hoM2 := hoM.put (p := p) (i := 1) (u := .slice (some ⟨gM, 0, none⟩) (y.nm + 1) cM) (fun he => by have := (hoM.lt _ he).1; omega)
      have ho10 := (HO8.out.below (hbW)).grown (only_setCell (p := ⟨p, 1, none⟩) (g := p) (only_refl _ _) (.inl rfl) (.slice (some ⟨gM, 0, none⟩) (y.nm + 1) cM)) (by
        rcases hD : blkOf D7 with _ | g
        · exact .inl rfl
        · exact .inr (fun h => by have := own_blk HO8.out g hD; injection h with h; omega))
      go_wp2
      go_meet
      exact ⟨rfl, rfl, Lib.hid ⟨gM, cM, hoM2, M12.out.put 1 _ hgp hpM hpE hpD hpR, ho10, by (have := hbW.size; simpa [World.setCell] using this)⟩⟩
    · refine eff_as (C' := (fun w' => ∃ s : In (fun W => Blk W p 31 #[.int .u32 q.key, .slice y.M y.nm y.cm, .slice y.E y.ne y.ce, .slice D7 (y.nd + (hl + 4)) c7, .int .u32 u] ∧ Blk W w.heap.size 41 #[.int .i64 m.p, .int .i64 m.why, .int .i64 m.k, .int .i64 m.id, .int .i64 m.to, .int .u64 m.at_]), w' = s.W)) rfl ?_
      (refine eff_lit rfl rfl (fun K hK => ?_))
      go_big_op
      have M10 := Lib.hid (M9.out.below ((Below.refl _ _).alloc (Nat.le_refl _) (.cells #[.int .i64 m.p, .int .i64 m.why, .int .i64 m.k, .int .i64 m.id, .int .i64 m.to, .int .u64 m.at_] 41)))
      have S2 : Blk (w8.drew.alloc (.cells #[.int .i64 m.p, .int .i64 m.why, .int .i64 m.k, .int .i64 m.id, .int .i64 m.to, .int .u64 m.at_] 41)) (w8.heap.size) 41 #[.int .i64 m.p, .int .i64 m.why, .int .i64 m.k, .int .i64 m.id, .int .i64 m.to, .int .u64 m.at_] := Blk.mk_ _ 41 _ _ (by simp)
      refine hK _ _ ⟨⟨_, M10.out.P, M10.out.G⟩, rfl⟩ ?_
      clear hK K
      simp only [opsAt, List.getElem?_toArray, List.getElem?_cons_succ, List.getElem?_cons_zero]
      refine wpQuiet_nil ?_
      refine eff_as (C' := (fun w' => ∃ s : In (fun W => Blk W p 31 #[.int .u32 q.key, .slice y.M y.nm y.cm, .slice y.E y.ne y.ce, .slice D7 (y.nd + (hl + 4)) c7, .int .u32 u] ∧ Blk W w.heap.size 41 #[.int .i64 m.p, .int .i64 m.why, .int .i64 m.k, .int .i64 m.id, .int .i64 m.to, .int .u64 m.at_]), w' = s.W)) rfl ?_
      (refine eff_lit rfl rfl (fun K hK => ?_))
      refine append_nil_op (w := (w8.drew.alloc (.cells #[.int .i64 m.p, .int .i64 m.why, .int .i64 m.k, .int .i64 m.id, .int .i64 m.to, .int .u64 m.at_] 41))) (.const (.slice none 0 0)) (.tmp 57) 26 rfl 41 (.agg #[.int .i64 0, .int .i64 0, .int .i64 0, .int .i64 0, .int .i64 0, .int .u64 0]) 6 48 Try.info41 Try.underlying26 rfl (by decide) ?_ y.M y.nm y.cm (mcells q.mv) ?_ HA1.out M10.out.mv (mcells_one _) ?_ ?_ ?_
      · rfl
      · rfl
      · omega
      · omega
      intro DM cDM w9 hoM0 hb9
      simp only [Act.put, List.setIfInBounds_toArray, List.set_cons_succ, List.set_cons_zero]
      have M11 := Lib.hid (M10.out.below hb9)
      have S2 := S2.call hb9
      have hz90 : w8.heap.size + 1 ≤ w9.heap.size := by have := hb9.size; simp at this; omega
      refine hK _ _ ⟨⟨_, M11.out.P, M11.out.G⟩, rfl⟩ ?_
      clear hK K
      simp only [opsAt, List.getElem?_toArray, List.getElem?_cons_succ, List.getElem?_cons_zero]
      refine wpQuiet_nil ?_
      have hoM0 : XOwns w9 w8.heap.size 41 6 DM y.nm cDM (mcells q.mv) := hoM0.more (by simp)
      refine eff_as (C' := (fun w' => ∃ s : In (fun W => Blk W p 31 #[.int .u32 q.key, .slice y.M y.nm y.cm, .slice y.E y.ne y.ce, .slice D7 (y.nd + (hl + 4)) c7, .int .u32 u] ∧ Blk W w.heap.size 41 #[.int .i64 m.p, .int .i64 m.why, .int .i64 m.k, .int .i64 m.id, .int .i64 m.to, .int .u64 m.at_]), w' = s.W)) rfl ?_
      (refine eff_lit rfl rfl (fun K hK => ?_))
      refine append_x_op (w := w9) (.tmp 58) (.tmp 60) 26 rfl w8.heap.size 41 (.agg #[.int .i64 0, .int .i64 0, .int .i64 0, .int .i64 0, .int .i64 0, .int .u64 0]) 6 48 Try.info41 Try.underlying26 rfl (by decide) DM y.nm cDM (mcells q.mv) ?_ hoM0 (some ⟨w8.heap.size, 0, none⟩) 1 1 m.cells ?_ (reads_block S2 6 1 rfl) (by simp [MoveV.cells, Value.oneCell']) (by decide) ?_ ?_ ?_ _ rfl ?_
      · rfl
      · rfl
      · omega
      · omega
      · (first | omega | (simp; omega))
      intro gM cM w10 hoM hgM hiM hltM
      simp only [Act.put, List.setIfInBounds_toArray, List.set_cons_succ, List.set_cons_zero]
      have hbM : Below w8.heap.size w9 w10 := grown_below hgM (by (first | omega | (simp; omega))) (fun g hg => (hoM0.lt g hg).1)
      have hbW : Below w8.heap.size w8 w10 := (Below.trans (Below.trans ((Below.refl _ _).drew) ((Below.refl _ _).alloc (by simp) (.cells #[.int .i64 m.p, .int .i64 m.why, .int .i64 m.k, .int .i64 m.id, .int .i64 m.to, .int .u64 m.at_] 41))) (hb9.mono (by simp))).trans hbM
      have M12 := Lib.hid (M8.out.below hbW)
      refine hK _ _ ⟨⟨_, M12.out.P, M12.out.G⟩, rfl⟩ ?_
      clear hK K
      simp only [opsAt, List.getElem?_toArray, List.getElem?_cons_succ, List.getElem?_cons_zero]
      repeat (go_big_quiet_step (fail))
      refine wpQuiet_nil ?_
      have q1 := (M12.out.P.at_ 1).trans rfl
      have f1 := M12.out.P.free 1
      have hp10 := M12.out.P.lt
      refine eff_as (C' := fun _ => True) rfl ?_
      (refine eff_lit rfl rfl (fun K hK => ?_))
      go_big_op
      refine hK _ _ trivial ?_
      clear hK K q1 f1
      simp only [opsAt, List.getElem?_toArray, List.getElem?_cons_succ, List.getElem?_cons_zero]
      refine wpQuiet_nil ?_
      refine effs_done ?_
      rw [← mcells_snoc] at hoM
      have hoM2 := hoM.put (p := p) (i := 1) (u := .slice (some ⟨gM, 0, none⟩) (y.nm + 1) cM) (fun he => by have := (hoM.lt _ he).1; omega)
      have ho10 := (HO8.out.below (hbW)).grown (only_setCell (p := ⟨p, 1, none⟩) (g := p) (only_refl _ _) (.inl rfl) (.slice (some ⟨gM, 0, none⟩) (y.nm + 1) cM)) (by
        rcases hD : blkOf D7 with _ | g
        · exact .inl rfl
        · exact .inr (fun h => by have := own_blk HO8.out g hD; injection h with h; omega))
      go_wp2
      go_meet
      exact ⟨rfl, rfl, Lib.hid ⟨gM, cM, hoM2, M12.out.put 1 _ hgp hpM hpE hpD hpR, ho10, by (have := hbW.size; simpa [World.setCell] using this)⟩⟩
  case rest =>
    obtain ⟨rfl, rfl, hcut⟩ := hcut
    obtain ⟨gM, cM, hoM, M8b, ho9, hzc⟩ := hcut.out
    have HOM := Lib.hid hoM
    have HO9 := Lib.hid ho9
    have M8 := Lib.hid M8b
    clear hcut hoM M8b ho9
    have hNE9 : Nonempty (In (fun W => Blk W p 31 #[.int .u32 q.key, .slice (some ⟨gM, 0, none⟩) (y.nm + 1) cM, .slice y.E y.ne y.ce, .slice D7 (y.nd + (hl + 4)) c7, .int .u32 u] ∧ Blk W w.heap.size 41 #[.int .i64 m.p, .int .i64 m.why, .int .i64 m.k, .int .i64 m.id, .int .i64 m.to, .int .u64 m.at_])) := ⟨⟨_, M8.out.P, M8.out.G⟩⟩
    have c0 : ∀ s : In (fun W => Blk W p 31 #[.int .u32 q.key, .slice (some ⟨gM, 0, none⟩) (y.nm + 1) cM, .slice y.E y.ne y.ce, .slice D7 (y.nd + (hl + 4)) c7, .int .u32 u] ∧ Blk W w.heap.size 41 #[.int .i64 m.p, .int .i64 m.why, .int .i64 m.k, .int .i64 m.id, .int .i64 m.to, .int .u64 m.at_]), s.W.cell? ⟨w.heap.size, 0, none⟩ = some (.int .i64 m.p) := fun s => (s.h.2.at_ 0).trans rfl
    have c1 : ∀ s : In (fun W => Blk W p 31 #[.int .u32 q.key, .slice (some ⟨gM, 0, none⟩) (y.nm + 1) cM, .slice y.E y.ne y.ce, .slice D7 (y.nd + (hl + 4)) c7, .int .u32 u] ∧ Blk W w.heap.size 41 #[.int .i64 m.p, .int .i64 m.why, .int .i64 m.k, .int .i64 m.id, .int .i64 m.to, .int .u64 m.at_]), s.W.cell? ⟨w.heap.size, 1, none⟩ = some (.int .i64 m.why) := fun s => (s.h.2.at_ 1).trans rfl
    have c2 : ∀ s : In (fun W => Blk W p 31 #[.int .u32 q.key, .slice (some ⟨gM, 0, none⟩) (y.nm + 1) cM, .slice y.E y.ne y.ce, .slice D7 (y.nd + (hl + 4)) c7, .int .u32 u] ∧ Blk W w.heap.size 41 #[.int .i64 m.p, .int .i64 m.why, .int .i64 m.k, .int .i64 m.id, .int .i64 m.to, .int .u64 m.at_]), s.W.cell? ⟨w.heap.size, 2, none⟩ = some (.int .i64 m.k) := fun s => (s.h.2.at_ 2).trans rfl
    have c3 : ∀ s : In (fun W => Blk W p 31 #[.int .u32 q.key, .slice (some ⟨gM, 0, none⟩) (y.nm + 1) cM, .slice y.E y.ne y.ce, .slice D7 (y.nd + (hl + 4)) c7, .int .u32 u] ∧ Blk W w.heap.size 41 #[.int .i64 m.p, .int .i64 m.why, .int .i64 m.k, .int .i64 m.id, .int .i64 m.to, .int .u64 m.at_]), s.W.cell? ⟨w.heap.size, 3, none⟩ = some (.int .i64 m.id) := fun s => (s.h.2.at_ 3).trans rfl
    have c4 : ∀ s : In (fun W => Blk W p 31 #[.int .u32 q.key, .slice (some ⟨gM, 0, none⟩) (y.nm + 1) cM, .slice y.E y.ne y.ce, .slice D7 (y.nd + (hl + 4)) c7, .int .u32 u] ∧ Blk W w.heap.size 41 #[.int .i64 m.p, .int .i64 m.why, .int .i64 m.k, .int .i64 m.id, .int .i64 m.to, .int .u64 m.at_]), s.W.cell? ⟨w.heap.size, 4, none⟩ = some (.int .i64 m.to) := fun s => (s.h.2.at_ 4).trans rfl
    have c5 : ∀ s : In (fun W => Blk W p 31 #[.int .u32 q.key, .slice (some ⟨gM, 0, none⟩) (y.nm + 1) cM, .slice y.E y.ne y.ce, .slice D7 (y.nd + (hl + 4)) c7, .int .u32 u] ∧ Blk W w.heap.size 41 #[.int .i64 m.p, .int .i64 m.why, .int .i64 m.k, .int .i64 m.id, .int .i64 m.to, .int .u64 m.at_]), s.W.cell? ⟨w.heap.size, 5, none⟩ = some (.int .u64 m.at_) := fun s => (s.h.2.at_ 5).trans rfl
    have e2 : ∀ s : In (fun W => Blk W p 31 #[.int .u32 q.key, .slice (some ⟨gM, 0, none⟩) (y.nm + 1) cM, .slice y.E y.ne y.ce, .slice D7 (y.nd + (hl + 4)) c7, .int .u32 u] ∧ Blk W w.heap.size 41 #[.int .i64 m.p, .int .i64 m.why, .int .i64 m.k, .int .i64 m.id, .int .i64 m.to, .int .u64 m.at_]), s.W.cell? ⟨p, 2, none⟩ = some (.slice y.E y.ne y.ce) := fun s => (s.h.1.at_ 2).trans rfl
    have e3 : ∀ s : In (fun W => Blk W p 31 #[.int .u32 q.key, .slice (some ⟨gM, 0, none⟩) (y.nm + 1) cM, .slice y.E y.ne y.ce, .slice D7 (y.nd + (hl + 4)) c7, .int .u32 u] ∧ Blk W w.heap.size 41 #[.int .i64 m.p, .int .i64 m.why, .int .i64 m.k, .int .i64 m.id, .int .i64 m.to, .int .u64 m.at_]), s.W.cell? ⟨p, 3, none⟩ = some (.slice D7 (y.nd + (hl + 4)) c7) := fun s => (s.h.1.at_ 3).trans rfl
    go_wp2
    refine wp_region_late (Ph (fun w' => ∃ s : In (fun W => Blk W p 31 #[.int .u32 q.key, .slice (some ⟨gM, 0, none⟩) (y.nm + 1) cM, .slice y.E y.ne y.ce, .slice D7 (y.nd + (hl + 4)) c7, .int .u32 u] ∧ Blk W w.heap.size 41 #[.int .i64 m.p, .int .i64 m.why, .int .i64 m.k, .int .i64 m.id, .int .i64 m.to, .int .u64 m.at_]), w' = s.W) (fun _ => True)) [15] [0,1,2,3,4,6,7,8,9,10] (.two 5 [] (.one 11 [] (.one 12 [13,14] (.one 15 [] .done))) 11 [] (.one 5 [] (.one 12 [13,14] (.one 15 [] .done)))) (by kernel_rfl) (by kernel_rfl) (fun d _ _ _ _ h => by cases d <;> exact h) ⟨⟨_, M8.out.P.drew, M8.out.G.drew⟩, rfl⟩ ?_
    refine quiet_as (C' := (fun w' => ∃ s : In (fun W => Blk W p 31 #[.int .u32 q.key, .slice (some ⟨gM, 0, none⟩) (y.nm + 1) cM, .slice y.E y.ne y.ce, .slice D7 (y.nd + (hl + 4)) c7, .int .u32 u] ∧ Blk W w.heap.size 41 #[.int .i64 m.p, .int .i64 m.why, .int .i64 m.k, .int .i64 m.id, .int .i64 m.to, .int .u64 m.at_]), w' = s.W)) rfl ?_
    simp only [opsAt, List.getElem?_toArray, List.getElem?_cons_succ, List.getElem?_cons_zero]
    repeat (go_big_quiet_step (fail))
    refine wpQuiet_nil ?_
    clear e2 e3 c0 c1 c2 c3 c4 c5
    have M9 := Lib.hid (M8.out.below ((Below.refl _ _).drew))
    have hz9 : wc.drew.heap.size = wc.heap.size := by simp
    refine (show ∀ A B : Prop, A → B → A ∧ B from fun _ _ a b => ⟨a, b⟩) _ _ ?_ ?_
    · refine eff_as (C' := (fun w' => ∃ s : In (fun W => Blk W p 31 #[.int .u32 q.key, .slice (some ⟨gM, 0, none⟩) (y.nm + 1) cM, .slice y.E y.ne y.ce, .slice D7 (y.nd + (hl + 4)) c7, .int .u32 u] ∧ Blk W w.heap.size 41 #[.int .i64 m.p, .int .i64 m.why, .int .i64 m.k, .int .i64 m.id, .int .i64 m.to, .int .u64 m.at_]), w' = s.W)) rfl ?_
      (refine eff_lit rfl rfl (fun K hK => ?_))
      refine append_nil_op (w := wc.drew) (.const (.slice none 0 0)) (.tmp 68) 29 rfl 3 (.int .i64 0) 1 8 Try.info3 Try.underlying29 rfl (by decide) ?_ y.E y.ne y.ce (q.ends.map (Value.int .i64)) ?_ HA2.out M9.out.ends (by intro u hu; obtain ⟨z, _, rfl⟩ := List.mem_map.1 hu; rfl) ?_ ?_ ?_
      · rfl
      · rfl
      · omega
      · omega
      intro DE cDE w9 hoE0 hb9
      simp only [Act.put, List.setIfInBounds_toArray, List.set_cons_succ, List.set_cons_zero]
      have M10 := Lib.hid (M9.out.below hb9)
      refine hK _ _ ⟨⟨_, M10.out.P, M10.out.G⟩, rfl⟩ ?_
      clear hK K
      simp only [opsAt, List.getElem?_toArray, List.getElem?_cons_succ, List.getElem?_cons_zero]
      refine wpQuiet_nil ?_
      refine eff_as (C' := (fun w' => ∃ s : In (fun W => Blk W p 31 #[.int .u32 q.key, .slice (some ⟨gM, 0, none⟩) (y.nm + 1) cM, .slice y.E y.ne y.ce, .slice D7 (y.nd + (hl + 4)) c7, .int .u32 u] ∧ Blk W w.heap.size 41 #[.int .i64 m.p, .int .i64 m.why, .int .i64 m.k, .int .i64 m.id, .int .i64 m.to, .int .u64 m.at_]), w' = s.W)) rfl ?_
      (refine eff_lit rfl rfl (fun K hK => ?_))
      go_big_op
      have M11 := Lib.hid (M10.out.below ((Below.refl _ _).alloc (Nat.le_refl _) (.cells #[.int .i64 (y.nd + (hl + 4))] 3)))
      have S2 : Blk (w9.alloc (.cells #[.int .i64 (y.nd + (hl + 4))] 3)) (w9.heap.size) 3 #[.int .i64 (y.nd + (hl + 4))] := Blk.mk_ _ 3 _ _ (by simp)
      refine hK _ _ ⟨⟨_, M11.out.P, M11.out.G⟩, rfl⟩ ?_
      clear hK K
      simp only [opsAt, List.getElem?_toArray, List.getElem?_cons_succ, List.getElem?_cons_zero]
      refine wpQuiet_nil ?_
      have hz90 := hb9.size
      rw [hz9] at hz90 hoE0
      refine eff_as (C' := (fun w' => ∃ s : In (fun W => Blk W p 31 #[.int .u32 q.key, .slice (some ⟨gM, 0, none⟩) (y.nm + 1) cM, .slice y.E y.ne y.ce, .slice D7 (y.nd + (hl + 4)) c7, .int .u32 u] ∧ Blk W w.heap.size 41 #[.int .i64 m.p, .int .i64 m.why, .int .i64 m.k, .int .i64 m.id, .int .i64 m.to, .int .u64 m.at_]), w' = s.W)) rfl ?_
      (refine eff_lit rfl rfl (fun K hK => ?_))
      refine append_x_op (w := (w9.alloc (.cells #[.int .i64 (y.nd + (hl + 4))] 3))) (.tmp 69) (.tmp 75) 29 rfl wc.heap.size 3 (.int .i64 0) 1 8 Try.info3 Try.underlying29 rfl (by decide) DE y.ne cDE (q.ends.map (Value.int .i64)) ?_ (hoE0.below ((Below.refl _ _).alloc (Nat.le_refl _) (.cells #[.int .i64 (y.nd + (hl + 4))] 3))) (some ⟨w9.heap.size, 0, none⟩) 1 1 [.int .i64 (y.nd + (hl + 4))] ?_ (reads_block S2 1 1 rfl) (by simp [Value.oneCell']) (by decide) ?_ ?_ ?_ _ rfl ?_
      · rfl
      · rfl
      · omega
      · omega
      · (first | omega | (simp; omega))
      intro gE cE w10 hoE hgE hiE hltE
      simp only [Act.put, List.setIfInBounds_toArray, List.set_cons_succ, List.set_cons_zero]
      have hbE : Below wc.heap.size (w9.alloc (.cells #[.int .i64 (y.nd + (hl + 4))] 3)) w10 := grown_below hgE (by (first | omega | (simp; omega))) (fun g hg => ((hoE0.below ((Below.refl _ _).alloc (Nat.le_refl _) (.cells #[.int .i64 (y.nd + (hl + 4))] 3))).lt g hg).1)
      have hbW : Below wc.heap.size wc w10 := (Below.trans ((Below.refl _ _).drew) hb9).trans (Below.trans ((Below.refl _ _).alloc (by omega) (.cells #[.int .i64 (y.nd + (hl + 4))] 3)) hbE)
      have M12 := Lib.hid (M8.out.below hbW)
      refine hK _ _ ⟨⟨_, M12.out.P, M12.out.G⟩, rfl⟩ ?_
      clear hK K
      simp only [opsAt, List.getElem?_toArray, List.getElem?_cons_succ, List.getElem?_cons_zero]
      repeat (go_big_quiet_step (fail))
      refine wpQuiet_nil ?_
      have q1 := (M12.out.P.at_ 2).trans rfl
      have f1 := M12.out.P.free 2
      have hp10 := M12.out.P.lt
      refine eff_as (C' := fun _ => True) rfl ?_
      (refine eff_lit rfl rfl (fun K hK => ?_))
      go_big_op
      refine hK _ _ trivial ?_
      clear hK K q1 f1
      simp only [opsAt, List.getElem?_toArray, List.getElem?_cons_succ, List.getElem?_cons_zero]
      refine wpQuiet_nil ?_
      refine effs_done ?_
      have MF := M12.out.put 2 (.slice (some ⟨gE, 0, none⟩) (y.ne + 1) cE) hgp hpM hpE hpD hpR
      have hoE2 := hoE.put (p := p) (i := 2) (u := .slice (some ⟨gE, 0, none⟩) (y.ne + 1) cE) (fun he => by have := (hoE.lt _ he).1; omega)
      have hoM2 := (HOM.out.below hbW).put (p := p) (i := 2) (u := .slice (some ⟨gE, 0, none⟩) (y.ne + 1) cE) (fun he => by have := (HOM.out.lt _ he).1; omega)
      have hoD2 := (HO9.out.below hbW).x.put (p := p) (i := 2) (u := .slice (some ⟨gE, 0, none⟩) (y.ne + 1) cE) (fun he => by have := own_blk HO9.out _ he; omega)
      go_wp2
      go_ret
      exact add_end HF.out hc HL.out HEQ.out.1 HEQ.out.2.1 HEQ.out.2.2 HRL2.out HSM.out (by omega) (by omega) (by omega) MF hoE2 hoM2 hoD2
    · refine eff_as (C' := (fun w' => ∃ s : In (fun W => Blk W p 31 #[.int .u32 q.key, .slice (some ⟨gM, 0, none⟩) (y.nm + 1) cM, .slice y.E y.ne y.ce, .slice D7 (y.nd + (hl + 4)) c7, .int .u32 u] ∧ Blk W w.heap.size 41 #[.int .i64 m.p, .int .i64 m.why, .int .i64 m.k, .int .i64 m.id, .int .i64 m.to, .int .u64 m.at_]), w' = s.W)) rfl ?_
      (refine eff_lit rfl rfl (fun K hK => ?_))
      go_big_op
      have M10 := Lib.hid (M9.out.below ((Below.refl _ _).alloc (Nat.le_refl _) (.cells #[.int .i64 (y.nd + (hl + 4))] 3)))
      have S2 : Blk (wc.drew.alloc (.cells #[.int .i64 (y.nd + (hl + 4))] 3)) (wc.heap.size) 3 #[.int .i64 (y.nd + (hl + 4))] := Blk.mk_ _ 3 _ _ (by simp)
      refine hK _ _ ⟨⟨_, M10.out.P, M10.out.G⟩, rfl⟩ ?_
      clear hK K
      simp only [opsAt, List.getElem?_toArray, List.getElem?_cons_succ, List.getElem?_cons_zero]
      refine wpQuiet_nil ?_
      refine eff_as (C' := (fun w' => ∃ s : In (fun W => Blk W p 31 #[.int .u32 q.key, .slice (some ⟨gM, 0, none⟩) (y.nm + 1) cM, .slice y.E y.ne y.ce, .slice D7 (y.nd + (hl + 4)) c7, .int .u32 u] ∧ Blk W w.heap.size 41 #[.int .i64 m.p, .int .i64 m.why, .int .i64 m.k, .int .i64 m.id, .int .i64 m.to, .int .u64 m.at_]), w' = s.W)) rfl ?_
      (refine eff_lit rfl rfl (fun K hK => ?_))
      refine append_nil_op (w := (wc.drew.alloc (.cells #[.int .i64 (y.nd + (hl + 4))] 3))) (.const (.slice none 0 0)) (.tmp 68) 29 rfl 3 (.int .i64 0) 1 8 Try.info3 Try.underlying29 rfl (by decide) ?_ y.E y.ne y.ce (q.ends.map (Value.int .i64)) ?_ HA2.out M10.out.ends (by intro u hu; obtain ⟨z, _, rfl⟩ := List.mem_map.1 hu; rfl) ?_ ?_ ?_
      · rfl
      · rfl
      · omega
      · omega
      intro DE cDE w9 hoE0 hb9
      simp only [Act.put, List.setIfInBounds_toArray, List.set_cons_succ, List.set_cons_zero]
      have M11 := Lib.hid (M10.out.below hb9)
      have S2 := S2.call hb9
      have hz90 : wc.heap.size + 1 ≤ w9.heap.size := by have := hb9.size; simp at this; omega
      refine hK _ _ ⟨⟨_, M11.out.P, M11.out.G⟩, rfl⟩ ?_
      clear hK K
      simp only [opsAt, List.getElem?_toArray, List.getElem?_cons_succ, List.getElem?_cons_zero]
      refine wpQuiet_nil ?_
      have hoE0 : XOwns w9 wc.heap.size 3 1 DE y.ne cDE (q.ends.map (Value.int .i64)) := hoE0.more (by simp)
      refine eff_as (C' := (fun w' => ∃ s : In (fun W => Blk W p 31 #[.int .u32 q.key, .slice (some ⟨gM, 0, none⟩) (y.nm + 1) cM, .slice y.E y.ne y.ce, .slice D7 (y.nd + (hl + 4)) c7, .int .u32 u] ∧ Blk W w.heap.size 41 #[.int .i64 m.p, .int .i64 m.why, .int .i64 m.k, .int .i64 m.id, .int .i64 m.to, .int .u64 m.at_]), w' = s.W)) rfl ?_
      (refine eff_lit rfl rfl (fun K hK => ?_))
      refine append_x_op (w := w9) (.tmp 69) (.tmp 75) 29 rfl wc.heap.size 3 (.int .i64 0) 1 8 Try.info3 Try.underlying29 rfl (by decide) DE y.ne cDE (q.ends.map (Value.int .i64)) ?_ hoE0 (some ⟨wc.heap.size, 0, none⟩) 1 1 [.int .i64 (y.nd + (hl + 4))] ?_ (reads_block S2 1 1 rfl) (by simp [Value.oneCell']) (by decide) ?_ ?_ ?_ _ rfl ?_
      · rfl
      · rfl
      · omega
      · omega
      · (first | omega | (simp; omega))
      intro gE cE w10 hoE hgE hiE hltE
      simp only [Act.put, List.setIfInBounds_toArray, List.set_cons_succ, List.set_cons_zero]
      have hbE : Below wc.heap.size w9 w10 := grown_below hgE (by (first | omega | (simp; omega))) (fun g hg => (hoE0.lt g hg).1)
      have hbW : Below wc.heap.size wc w10 := (Below.trans (Below.trans ((Below.refl _ _).drew) ((Below.refl _ _).alloc (by simp) (.cells #[.int .i64 (y.nd + (hl + 4))] 3))) (hb9.mono (by simp))).trans hbE
      have M12 := Lib.hid (M8.out.below hbW)
      refine hK _ _ ⟨⟨_, M12.out.P, M12.out.G⟩, rfl⟩ ?_
      clear hK K
      simp only [opsAt, List.getElem?_toArray, List.getElem?_cons_succ, List.getElem?_cons_zero]
      repeat (go_big_quiet_step (fail))
      refine wpQuiet_nil ?_
      have q1 := (M12.out.P.at_ 2).trans rfl
      have f1 := M12.out.P.free 2
      have hp10 := M12.out.P.lt
      refine eff_as (C' := fun _ => True) rfl ?_
      (refine eff_lit rfl rfl (fun K hK => ?_))
      go_big_op
      refine hK _ _ trivial ?_
      clear hK K q1 f1
      simp only [opsAt, List.getElem?_toArray, List.getElem?_cons_succ, List.getElem?_cons_zero]
      refine wpQuiet_nil ?_
      refine effs_done ?_
      have MF := M12.out.put 2 (.slice (some ⟨gE, 0, none⟩) (y.ne + 1) cE) hgp hpM hpE hpD hpR
      have hoE2 := hoE.put (p := p) (i := 2) (u := .slice (some ⟨gE, 0, none⟩) (y.ne + 1) cE) (fun he => by have := (hoE.lt _ he).1; omega)
      have hoM2 := (HOM.out.below hbW).put (p := p) (i := 2) (u := .slice (some ⟨gE, 0, none⟩) (y.ne + 1) cE) (fun he => by have := (HOM.out.lt _ he).1; omega)
      have hoD2 := (HO9.out.below hbW).x.put (p := p) (i := 2) (u := .slice (some ⟨gE, 0, none⟩) (y.ne + 1) cE) (fun he => by have := own_blk HO9.out _ he; omega)
      go_wp2
      go_ret
      exact add_end HF.out hc HL.out HEQ.out.1 HEQ.out.2.1 HEQ.out.2.2 HRL2.out HSM.out (by omega) (by omega) (by omega) MF hoE2 hoM2 hoD2
end Go.Proofs.Ythckmcpngpigkaa
