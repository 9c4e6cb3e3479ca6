/-
  Texts: Kg.
-/
import Derived.Test.YtpbbemmjodegkaaDoorXk8
import Derived.Test.YtpbbemmjodegkaaDoorXk3
set_option linter.unusedSimpArgs false
set_option linter.unusedVariables false
namespace Go.Proofs.YtpbbemmjodegkaaDoor
open Go.RowKit

theorem tinfo_efs : (Tryd.prog.info? 106).map (fun i => (i.zero, i.size, i.bytes)) = some (some (.agg #[.int .i64 0, .int .i64 0, .int .i64 0, .int .i64 0, .int .i64 0]), 5, 40) := by kernel_rfl
theorem tinfo_trs : (Tryd.prog.info? 112).map (fun i => (i.zero, i.size, i.bytes)) = some (some (.agg #[.int .i64 0, .slice none 0 0]), 2, 32) := by kernel_rfl

set_option maxHeartbeats 400000 in
theorem clone_efs (A : Option Addr) (n c : Nat) (xs : List Value) (w : World) (hx : Reads w 5 A n xs) (h1 : ∀ u ∈ xs, u.oneCell' = true) (hA : A = none → c = 0) (hn : n ≤ 100000) :
    Calls Tryd.prog 45 #[.slice A n c] w fun e w' => ∃ A' c', e = .returned (.slice A' n c') ∧ XOwns w' w.heap.size 106 5 A' n c' xs ∧ Below w.heap.size w w' := by
  cases A with
  | none =>
    have hc := hA rfl
    subst hc
    have h0 : n = 0 := by
      rcases Nat.eq_zero_or_pos n with h0 | h0
      · exact h0
      · obtain ⟨ad, e, _⟩ := hx.2 h0
        cases e
    subst h0
    have hxe : xs = [] := List.eq_nil_of_length_eq_zero (by have := hx.1; simpa using this)
    rw [hxe]
    clear hx hA hxe h1
    have heql := fun W a n c => Lib.run_eql_slice_nil (P := Tryd.prog) W 71 106 a n c 0 0 Tryd.underlying71
    go_enter Tryd.func45, Tryd.ntmps45
    go_wp2
    go_ret
    exact ⟨none, 0, rfl, ⟨World.ownsRow_nil _ _ _ _, fun _ => rfl⟩, Below.refl _ _⟩
  | some ad =>
    have heql := fun W a n c => Lib.run_eql_slice_nil (P := Tryd.prog) W 71 106 a n c 0 0 Tryd.underlying71
    have HX := Lib.hid hx
    have H1 := Lib.hid h1
    clear hx hA h1
    obtain ⟨i0, hi, hz0, hz1, hz2⟩ := info_parts tinfo_efs
    have HI := Lib.hid hi
    have HZ0 := Lib.hid hz0
    have HZ1 := Lib.hid hz1
    have HZ2 := Lib.hid hz2
    clear hi hz0 hz1 hz2
    go_enter Tryd.func45, Tryd.ntmps45
    go_wp2_with (at_builtin; refine wpList_append_reads _ ?_ (.tmp 5) (.tmp 6) 71 ?_ w.heap.size 106 i0 _ 5 40 Tryd.underlying71 HI.out HZ0.out HZ1.out HZ2.out rfl (by decide) (.slice (some ⟨w.heap.size, 0, none⟩) 0 0) 0 [] ?_ (World.ownsRow_lit (base := w.heap.size) (e := 106) (size := 5) w #[] 0 (Nat.le_refl _) (by unfold maxLen; omega) (by simp)) (some ad) n c xs ?_ (fun h => by cases h) (HX.out.alloc _) H1.out ?_ ?_ ?_ ?_; rfl; rfl; rfl; rfl; (unfold maxLen; omega); omega; (focus (first | omega | (simp only [World.size_alloc]; done) | (simp only [World.size_alloc]; omega) | (simp; done) | (simp; omega))); intro v2 w2 ho2 hg2 hiff)
    go_ret
    have hb : Below w.heap.size w w2 := Below.trans (by (focus (repeat' (first | (with_reducible exact Below.refl _ _) | (with_reducible assumption) | (with_reducible refine Below.alloc ?_ ?_ _) | (with_reducible refine below_drewN ?_ _) | (with_reducible refine Below.drew ?_) | (with_reducible refine Below.setCell ?_ ?_ _) | omega | (simp; done) | (simp; omega))))) ((Below.refl _ _).grown hg2 (by (focus (first | omega | (simp only [World.size_alloc]; done) | (simp only [World.size_alloc]; omega) | (simp; done) | (simp; omega)))) (fun k hk => by (have hkk : w.heap.size = k := by simpa [Value.ownBlock] using hk); omega))
    rw [Nat.zero_add, List.nil_append] at ho2
    rcases ho2.2 with ⟨h0, h00⟩ | ⟨g, cap, cur, h0, _⟩
    · exact ⟨none, 0, by (first | (rw [h00]; exact congrArg Ending.returned h0) | (subst h00; exact congrArg Ending.returned h0)), ⟨by rw [h0] at ho2; rw [h00] at ho2 ⊢; exact ho2, fun _ => rfl⟩, hb⟩
    · exact ⟨some ⟨g, 0, none⟩, cap, congrArg Ending.returned h0, ⟨by rw [h0] at ho2; exact ho2, fun h => by cases h⟩, hb⟩

set_option maxHeartbeats 400000 in
theorem clone_trs (A : Option Addr) (n c : Nat) (xs : List Value) (w : World) (hx : Reads w 2 A n xs) (h1 : ∀ u ∈ xs, u.oneCell' = true) (hA : A = none → c = 0) (hn : n ≤ 100000) :
    Calls Tryd.prog 46 #[.slice A n c] w fun e w' => ∃ A' c', e = .returned (.slice A' n c') ∧ XOwns w' w.heap.size 112 2 A' n c' xs ∧ Below w.heap.size w w' := by
  cases A with
  | none =>
    have hc := hA rfl
    subst hc
    have h0 : n = 0 := by
      rcases Nat.eq_zero_or_pos n with h0 | h0
      · exact h0
      · obtain ⟨ad, e, _⟩ := hx.2 h0
        cases e
    subst h0
    have hxe : xs = [] := List.eq_nil_of_length_eq_zero (by have := hx.1; simpa using this)
    rw [hxe]
    clear hx hA hxe h1
    have heql := fun W a n c => Lib.run_eql_slice_nil (P := Tryd.prog) W 72 112 a n c 0 0 Tryd.underlying72
    go_enter Tryd.func46, Tryd.ntmps46
    go_wp2
    go_ret
    exact ⟨none, 0, rfl, ⟨World.ownsRow_nil _ _ _ _, fun _ => rfl⟩, Below.refl _ _⟩
  | some ad =>
    have heql := fun W a n c => Lib.run_eql_slice_nil (P := Tryd.prog) W 72 112 a n c 0 0 Tryd.underlying72
    have HX := Lib.hid hx
    have H1 := Lib.hid h1
    clear hx hA h1
    obtain ⟨i0, hi, hz0, hz1, hz2⟩ := info_parts tinfo_trs
    have HI := Lib.hid hi
    have HZ0 := Lib.hid hz0
    have HZ1 := Lib.hid hz1
    have HZ2 := Lib.hid hz2
    clear hi hz0 hz1 hz2
    go_enter Tryd.func46, Tryd.ntmps46
    go_wp2_with (at_builtin; refine wpList_append_reads _ ?_ (.tmp 5) (.tmp 6) 72 ?_ w.heap.size 112 i0 _ 2 32 Tryd.underlying72 HI.out HZ0.out HZ1.out HZ2.out rfl (by decide) (.slice (some ⟨w.heap.size, 0, none⟩) 0 0) 0 [] ?_ (World.ownsRow_lit (base := w.heap.size) (e := 112) (size := 2) w #[] 0 (Nat.le_refl _) (by unfold maxLen; omega) (by simp)) (some ad) n c xs ?_ (fun h => by cases h) (HX.out.alloc _) H1.out ?_ ?_ ?_ ?_; rfl; rfl; rfl; rfl; (unfold maxLen; omega); omega; (focus (first | omega | (simp only [World.size_alloc]; done) | (simp only [World.size_alloc]; omega) | (simp; done) | (simp; omega))); intro v2 w2 ho2 hg2 hiff)
    go_ret
    have hb : Below w.heap.size w w2 := Below.trans (by (focus (repeat' (first | (with_reducible exact Below.refl _ _) | (with_reducible assumption) | (with_reducible refine Below.alloc ?_ ?_ _) | (with_reducible refine below_drewN ?_ _) | (with_reducible refine Below.drew ?_) | (with_reducible refine Below.setCell ?_ ?_ _) | omega | (simp; done) | (simp; omega))))) ((Below.refl _ _).grown hg2 (by (focus (first | omega | (simp only [World.size_alloc]; done) | (simp only [World.size_alloc]; omega) | (simp; done) | (simp; omega)))) (fun k hk => by (have hkk : w.heap.size = k := by simpa [Value.ownBlock] using hk); omega))
    rw [Nat.zero_add, List.nil_append] at ho2
    rcases ho2.2 with ⟨h0, h00⟩ | ⟨g, cap, cur, h0, _⟩
    · exact ⟨none, 0, by (first | (rw [h00]; exact congrArg Ending.returned h0) | (subst h00; exact congrArg Ending.returned h0)), ⟨by rw [h0] at ho2; rw [h00] at ho2 ⊢; exact ho2, fun _ => rfl⟩, hb⟩
    · exact ⟨some ⟨g, 0, none⟩, cap, congrArg Ending.returned h0, ⟨by rw [h0] at ho2; exact ho2, fun h => by cases h⟩, hb⟩
theorem trcs_set : ∀ (l : List Trg) (ts : List Sl) (i : Nat) (x : Trg) (t : Sl), ts.length = l.length → l[i]? = some x → (trcs (l.zip ts)).set (i * 2 + 1) (t.v x.efs.length) = trcs (l.zip (ts.set i t))
  | [], _, _, _, _, _, h => by simp at h
  | y :: l, [], _, _, _, h, _ => by simp at h
  | y :: l, s :: ts, 0, x, t, _, h => by
    simp at h
    subst h
    rfl
  | y :: l, s :: ts, i + 1, x, t, hl, h => by
    have := trcs_set l ts i x t (by simpa using hl) (by simpa using h)
    show (y.cells s ++ trcs (l.zip ts)).set _ _ = y.cells s ++ trcs (l.zip (ts.set i t))
    rw [← this, List.set_append_right _ _ (show (y.cells s).length ≤ _ by show 2 ≤ _; omega), show (i + 1) * 2 + 1 - (y.cells s).length = i * 2 + 1 by show (i + 1) * 2 + 1 - 2 = _; omega]
theorem trcs_at {l : List Trg} {ts : List Sl} {i : Nat} {x : Trg} {t : Sl} (hx : l[i]? = some x) (ht : ts[i]? = some t) : (trcs (l.zip ts))[i * 2 + 1]? = some (t.v x.efs.length) := by
  have hz : (l.zip ts)[i]? = some (x, t) := by
    rw [List.getElem?_zip_eq_some]
    exact ⟨hx, ht⟩
  exact (flatMap_at (enc := fun p : Trg × Sl => p.1.cells p.2) (k := 2) (fun _ => rfl) hz (j := 1) (by decide)).trans rfl
structure TsO (W : World) (B : Nat) (s : Sl) (l : List Trg) (ts : List Sl) : Prop where
  len : ts.length = l.length
  row : XOwns W B 112 2 s.A l.length s.c (trcs (l.zip ts))
  ef : ∀ (i : Nat) (x : Trg) (t : Sl), l[i]? = some x → ts[i]? = some t → XOwns W B 106 5 t.A x.efs.length t.c (ecs x.efs)
section
variable {W W' : World} {B : Nat} {s : Sl} {l : List Trg} {ts : List Sl}
theorem TsO.isR (h : TsO W B s l ts) : TsR W s l ts := ⟨h.len, h.row.reads, h.row.okS, fun i x t h1 h2 => ⟨(h.ef i x t h1 h2).reads, (h.ef i x t h1 h2).okS⟩⟩
theorem TsO.below (h : TsO W B s l ts) (hb : Below W.heap.size W W') : TsO W' B s l ts := ⟨h.len, h.row.below hb, fun i x t h1 h2 => (h.ef i x t h1 h2).below hb⟩
theorem TsO.more {B' : Nat} (h : TsO W B s l ts) (hb : B' ≤ B) : TsO W B' s l ts := ⟨h.len, h.row.more hb, fun i x t h1 h2 => (h.ef i x t h1 h2).more hb⟩
theorem TsO.blk {g t : Nat} {cs : Array Value} (h : TsO W B s l ts) (hk : Blk W g t cs) (hg : W.grownBy W' (some g)) (h1 : 112 ≠ t) (h2 : 106 ≠ t) : TsO W' B s l ts :=
  ⟨h.len, h.row.grown hg (.inr (h.row.apart_blk hk h1)), fun i x u h3 h4 => (h.ef i x u h3 h4).grown hg (.inr ((h.ef i x u h3 h4).apart_blk hk h2))⟩
end
structure TrS (w : World) (l : List Trg) (ts : List Sl) (A : Option Addr) (n c k : Nat) (ts' : List Sl) (W : World) : Prop where
  row : XOwns W w.heap.size 112 2 A n c (trcs (l.zip ts'))
  len : ts'.length = l.length
  ef : ∀ (i : Nat) (x : Trg) (t : Sl), l[i]? = some x → ts'[i]? = some t → (k ≤ i ∧ ts[i]? = some t) ∨ XOwns W w.heap.size 106 5 t.A x.efs.length t.c (ecs x.efs)
  bel : Below w.heap.size w W
section
variable {w W W' : World} {l : List Trg} {ts ts' : List Sl} {A : Option Addr} {n c k : Nat} {s : Sl}
theorem TrS.below (h : TrS w l ts A n c k ts' W) (hb : Below W.heap.size W W') : TrS w l ts A n c k ts' W' :=
  ⟨h.row.below hb, h.len, fun i x t h1 h2 => (h.ef i x t h1 h2).imp id (fun h => h.below hb), below_call h.bel hb h.bel.size⟩
theorem TrS.reads (h : TrS w l ts A n c k ts' W) (hr : TsR w s l ts) {i : Nat} {x : Trg} {t : Sl} (h1 : l[i]? = some x) (h2 : ts'[i]? = some t) : Reads W 5 t.A x.efs.length (ecs x.efs) ∧ t.ok x.efs.length := by
  rcases h.ef i x t h1 h2 with ⟨_, h3⟩ | h3
  · exact ⟨(hr.ef i x t h1 h3).row.below h.bel, (hr.ef i x t h1 h3).ok⟩
  · exact ⟨h3.reads, h3.okS⟩
theorem TrS.put {g : Nat} (h : TrS w l ts (some ⟨g, 0, none⟩) n c k ts' W) {x : Trg} {t : Sl} (hx : l[k]? = some x) (ht : XOwns W w.heap.size 106 5 t.A x.efs.length t.c (ecs x.efs)) :
    TrS w l ts (some ⟨g, 0, none⟩) n c (k + 1) (ts'.set k t) (W.setCell ⟨g, k * 2 + 1, none⟩ (t.v x.efs.length)) := by
  have hap : ∀ {t' : Sl} {m : Nat} {xs : List Value}, XOwns W w.heap.size 106 5 t'.A m t'.c xs → blkOf t'.A ≠ some g := fun {t' m xs} h' he => by
    rcases h'.apart h.row (by decide) with h1 | h1
    · rw [h1] at he; cases he
    · exact h1 (by rw [he]; rfl)
  refine ⟨?_, by rw [List.length_set]; exact h.len, fun i y t' h1 h2 => ?_, ?_⟩
  · have := h.row.setX (k * 2 + 1) (t.v x.efs.length)
    rwa [trcs_set l ts' k x t h.len hx] at this
  · by_cases e : i = k
    · subst e
      rw [hx] at h1
      obtain rfl := Option.some.inj h1
      have hlt : i < ts'.length := by rw [h.len]; exact (List.getElem?_eq_some_iff.1 hx).1
      rw [List.getElem?_set_self hlt] at h2
      obtain rfl := Option.some.inj h2
      exact .inr (ht.put (hap ht))
    · rw [List.getElem?_set_ne (fun e' => e e'.symm)] at h2
      rcases h.ef i y t' h1 h2 with ⟨h3, h4⟩ | h3
      · exact .inl ⟨by omega, h4⟩
      · exact .inr (h3.put (hap h3))
  · exact h.bel.setCell ((h.row.lt g rfl).1) _
theorem TrS.done (h : TrS w l ts A n c k ts' W) (hr : TsR w s l ts) (hn : l.length = n) (hk : k = n) : TsO W w.heap.size ⟨A, c⟩ l ts' :=
  ⟨h.len, by rw [hn]; exact h.row, fun i x t h1 h2 => by
    rcases h.ef i x t h1 h2 with ⟨h3, _⟩ | h3
    · have := (List.getElem?_eq_some_iff.1 h1).1
      omega
    · exact h3⟩
end
end Go.Proofs.YtpbbemmjodegkaaDoor
