/-
  Texts: RSum, Rec.
-/
import Derived.Test.YtpbbemmjodegkaaDoorXk21
set_option linter.unusedSimpArgs false
set_option linter.unusedVariables false
namespace Go.Proofs.YtpbbemmjodegkaaDoor
open Go.RowKit

theorem add_g (g k : Nat) : (⟨g, 0, none⟩ : Addr).add k = ⟨g, k, none⟩ := by
  unfold Addr.add
  split <;> simp_all
def pre4 (s : Int) : Nat → Int
  | 0 => 0
  | 1 => s / 16777216
  | 2 => s / 65536
  | 3 => s / 256
  | _ => s
def at4 (s : Int) (k : Nat) : Int := (be4 s).getD k 0
theorem pre4_bd {s : Int} (h0 : 0 ≤ s) (h1 : s ≤ 4294967295) (k : Nat) (hk : k < 4) : 0 ≤ pre4 s k ∧ pre4 s k < 16777216 ∧ 0 ≤ at4 s k ∧ at4 s k ≤ 255 ∧ pre4 s (k + 1) = pre4 s k * 256 + at4 s k := by
  match k, hk with
  | 0, _ => simp only [pre4, at4, be4, List.getD_cons_zero]; omega
  | 1, _ => simp only [pre4, at4, be4, List.getD_cons_succ, List.getD_cons_zero]; omega
  | 2, _ => simp only [pre4, at4, be4, List.getD_cons_succ, List.getD_cons_zero]; omega
  | 3, _ => simp only [pre4, at4, be4, List.getD_cons_succ, List.getD_cons_zero]; omega
theorem or_u32 {a y : Int} (h0 : 0 ≤ a) (h1 : a < 16777216) (hy0 : 0 ≤ y) (hy1 : y ≤ 255) : bits .or .u32 (a * 256) y = a * 256 + y := by
  obtain ⟨n, rfl⟩ : ∃ n : Nat, a = n := ⟨a.toNat, by omega⟩
  obtain ⟨m, rfl⟩ : ∃ m : Nat, y = m := ⟨y.toNat, by omega⟩
  show IntKind.u32.wrap ((BitVec.ofInt 32 ((n : Int) * 256) ||| BitVec.ofInt 32 (m : Int)).toNat : Int) = _
  rw [BitVec.toNat_or, BitVec.toNat_ofInt, BitVec.toNat_ofInt]
  have e1 : ((n : Int) * 256 % ((2 ^ 32 : Nat) : Int)).toNat = n <<< 8 := by
    have : ((2 ^ 32 : Nat) : Int) = 4294967296 := by decide
    rw [this, Nat.shiftLeft_eq]
    omega
  have e2 : ((m : Int) % ((2 ^ 32 : Nat) : Int)).toNat = m := by
    have : ((2 ^ 32 : Nat) : Int) = 4294967296 := by decide
    rw [this]
    omega
  rw [e1, e2, ← Nat.shiftLeft_add_eq_or_of_lt (by omega), Nat.shiftLeft_eq, IntKind.wrap_u32]
  omega

set_option maxHeartbeats 800000 in
theorem rsum_any (B p : Nat) (q : St) (x : RpC) (w : World) (h : Rp w B p q x) : Calls Tryd.prog 11 #[.pointer (some ⟨p, 0, none⟩)] w fun e w' => e = .returned (.int .u32 q.sum) ∧ Below w.heap.size w w' := by
  have x0 := (h.blk.at_ 0).trans rfl
  have x1 := (h.blk.at_ 1).trans rfl
  have hn := h.n_eq
  rcases Nat.eq_zero_or_pos q.mv.length with h0 | h0
  · have hl := Lib.hid (h.ok.nil_ h0).2.1
    rw [(h.ok.nil_ h0).1] at hn
    simp only [List.length_nil] at hn
    rw [hn] at x1
    clear h hn h0
    go_enter Tryd.func11, Tryd.ntmps11
    go_wp2
    go_ret
    exact ⟨by rw [hl.out]; rfl, Below.refl _ _⟩
  · obtain ⟨d, hd⟩ := (h.ok.cons_ h0).1
    have hs := h.ok.sum0
    obtain ⟨g, c, hv, _, _⟩ := h.data.1.form (by rw [hn, hd, List.length_append, be4_len]; omega)
    have hlen : q.data.length = d.length + 4 := by rw [hd]; simp [be4_len]
    have hcells : ∀ j, j < 4 → w.cell? ⟨g, d.length + j, none⟩ = some (.int .u8 (at4 q.sum j)) := by
      intro j hj
      obtain ⟨ad, e, _, hcell⟩ := h.data.reads.2 (by omega)
      injection hv with hv
      rw [hv] at e
      injection e with e
      subst e
      have := hcell (d.length + j) (.int .u8 (at4 q.sum j)) (by
        rw [hd, bys, List.getElem?_map, List.getElem?_append_right (by omega), show d.length + j - d.length = j by omega, List.getElem?_eq_getElem (by rw [be4_len]; exact hj)]
        simp [at4, List.getD, List.getElem?_eq_getElem (show j < (be4 q.sum).length by rw [be4_len]; exact hj)])
      rwa [add_g] at this
    have hcap : x.n ≤ x.c ∧ x.c ≤ 9223372036854775807 := by
      rcases h.data.1.2 with ⟨_, hz⟩ | ⟨g', c', cur, h1, _, _, h2, h3, _⟩
      · omega
      · injection h1 with _ _ h1
        unfold maxLen at h3
        omega
    injection hv with hv
    rw [hv, hn, hlen] at x1
    rw [hn, hlen] at hcap
    obtain ⟨hc1, hc2⟩ := hcap
    have HP : Hid (∀ k, k < 4 → 0 ≤ pre4 q.sum k ∧ pre4 q.sum k < 16777216 ∧ 0 ≤ at4 q.sum k ∧ at4 q.sum k ≤ 255 ∧ pre4 q.sum (k + 1) = pre4 q.sum k * 256 + at4 q.sum k) := Lib.hid (pre4_bd hs.1 hs.2)
    have HC := Lib.hid hcells
    generalize hk : d.length = k at *
    generalize hx : x.c = xc at *
    have hne : ¬ xc = k := by omega
    clear h hn hd hlen hcells hk hv h0 hs hx
    go_enter Tryd.func11, Tryd.ntmps11
    go_wp2
    go_quiet (fail)
    go_wp2
    obtain ⟨wn, hwn⟩ : ∃ wn : World, wn = w.drewN nq := ⟨_, rfl⟩
    go_loop [3, 32] (fun v i => ∃ j : Nat, j ≤ 4 ∧ i = .int .i64 j ∧ v = .int .u32 (pre4 q.sum j)) (fun _ i => 4 - (intOf i).toNat)
    case atStart => exact ⟨0, by omega, rfl, rfl⟩
    case round =>
      obtain ⟨j, hj, rfl, rfl⟩ := hrel
      by_cases hlt : j < 4
      · have hc := HC.out j hlt
        obtain ⟨p0, p1, p2, p3, p4⟩ := HP.out j hlt
        have ho := or_u32 p0 p1 p2 p3
        have H4 := Lib.hid p4
        clear p4
        generalize pre4 q.sum j = a at *
        generalize at4 q.sum j = y at *
        go_wp2
        go_round
        case rel => exact ⟨j + 1, by omega, by go_num, by rw [H4.out]⟩
        case measure => simp [intOf]; omega
      · obtain rfl : j = 4 := by omega
        go_wp2
        go_ret
        exact ⟨rfl, by (focus (repeat' (first | (with_reducible exact Below.refl _ _) | (with_reducible assumption) | (with_reducible refine Below.alloc ?_ ?_ _) | (with_reducible refine below_drewN ?_ _) | (with_reducible refine Below.drew ?_) | (with_reducible refine Below.setCell ?_ ?_ _) | omega | (simp; done) | (simp; omega))))⟩

theorem nreads_lit (w : World) (ns : List Nat) (g n : Nat) (hg : w.heap.size = g) (hn : ns.length = n) (h64 : ∀ x ∈ ns, x < 2 ^ 64) : NReads (w.alloc (.cells (ns.map fun (x : Nat) => Value.int .u64 (x : Int)).toArray 37)) (some ⟨g, 0, none⟩) n ns := by
  subst hg hn
  have h := reads_lit w (ns.map fun (x : Nat) => Value.int .u64 (x : Int)).toArray 37
  refine ⟨?_, h64⟩
  simpa using h

set_option maxRecDepth 100000 in
set_option maxHeartbeats 1600000 in
theorem rec_any (B p : Nat) (q : St) (x : RpC) (m : MoveV) (w : World) (h : Rp w B p q x) (hf : fits q m) : Calls Tryd.prog 29 #[.pointer (some ⟨p, 0, none⟩), .agg #[.int .i64 m.p, .int .i64 m.why, .int .i64 m.k, .int .i64 m.id, .int .i64 m.to, .int .u64 m.at_]] w fun e w' => ∃ A c, e = .returned (.slice A (recS q.last q.sum m).length c) ∧ BOwns w' w.heap.size 5 A (recS q.last q.sum m).length c (recS q.last q.sum m) ∧ Below w.heap.size w w' := by
  have HR : Hid (∀ W, Below w.heap.size w W → Rp W B p q x) := fun W hb => h.below hb
  obtain ⟨hk, ha1, ha2⟩ := hf
  have hkk := kept_of hk
  have hl0 := h.ok.last0
  have hs0 := h.ok.sum0
  obtain ⟨mp, mwhy, mk, mid, mto, mat⟩ := m
  simp only at hkk ha1 ha2 ⊢
  obtain ⟨k, rfl⟩ : ∃ k : Nat, mk = k := ⟨mk.toNat, by omega⟩
  obtain ⟨id, rfl⟩ : ∃ k : Nat, mid = k := ⟨mid.toNat, by omega⟩
  obtain ⟨tt, rfl⟩ : ∃ k : Nat, mto = k := ⟨mto.toNat, by omega⟩
  obtain ⟨d, hd⟩ : ∃ d : Nat, mat = q.last + d := ⟨(mat - q.last).toNat, by omega⟩
  have HH : Hid (hdrS q.last ⟨mp, mwhy, k, id, tt, mat⟩ = (mp + 2 * (mwhy - 1)) :: [k, id, tt, d].flatMap numS) := Lib.hid (by
    simp only [hdrS, Int.toNat_natCast, hd]
    rw [show q.last + (d : Int) - q.last = d by omega, Int.toNat_natCast]
    simp)
  have HB := Lib.hid (hdr_bytes (t := q.last) hk)
  have hdl := Lib.hid (hdr_le hk hl0.1 ha2)
  have hd64 : d < 18446744073709551616 := by omega
  subst hd
  have hp0 : 0 ≤ mp ∧ mp ≤ 1 ∧ 1 ≤ mwhy ∧ mwhy ≤ 5 ∧ k ≤ 8 ∧ id ≤ 65535 ∧ tt ≤ 65535 := by omega
  unfold recS
  rw [HH.out] at HB ⊢
  have HL := Lib.hid (show ((mp + 2 * (mwhy - 1)) :: [k, id, tt, d].flatMap numS).length ≤ 20 by rw [← HH.out]; exact hdl.out)
  generalize hhs : (mp + 2 * (mwhy - 1)) :: [k, id, tt, d].flatMap numS = hs at *
  have HHS := Lib.hid hhs
  generalize hrs : hs ++ be4 (sumS q.sum hs) = rs at *
  have HRS := Lib.hid hrs
  clear h hk hkk hdl HH hhs hrs
  obtain ⟨hp1, hp2, hp3, hp4, hp5, hp6, hp7⟩ := hp0
  generalize hq : q.last = t at *
  have HQ := Lib.hid hq
  clear hq
  have htd : t + (d : Int) - t = d := by omega
  go_enter Tryd.func29, Tryd.ntmps29
  go_wp2
  have hNE : Nonempty (In (fun W => Blk W w.heap.size 55 #[.int .i64 mp, .int .i64 mwhy, .int .i64 k, .int .i64 id, .int .i64 tt, .int .u64 (t + d)] ∧ Below w.heap.size w W)) := ⟨⟨_, Blk.mk_ w 55 _ _ rfl, by (focus (repeat' (first | (with_reducible exact Below.refl _ _) | (with_reducible assumption) | (with_reducible refine Below.alloc ?_ ?_ _) | (with_reducible refine below_drewN ?_ _) | (with_reducible refine Below.drew ?_) | (with_reducible refine Below.setCell ?_ ?_ _) | omega | (simp; done) | (simp; omega))))⟩⟩
  have c2 : ∀ s : In (fun W => Blk W w.heap.size 55 #[.int .i64 mp, .int .i64 mwhy, .int .i64 k, .int .i64 id, .int .i64 tt, .int .u64 (t + d)] ∧ Below w.heap.size w W), s.W.cell? ⟨w.heap.size, 2, none⟩ = some (.int .i64 k) := fun s => (s.h.1.at_ 2).trans rfl
  have c3 : ∀ s : In (fun W => Blk W w.heap.size 55 #[.int .i64 mp, .int .i64 mwhy, .int .i64 k, .int .i64 id, .int .i64 tt, .int .u64 (t + d)] ∧ Below w.heap.size w W), s.W.cell? ⟨w.heap.size, 3, none⟩ = some (.int .i64 id) := fun s => (s.h.1.at_ 3).trans rfl
  have c4 : ∀ s : In (fun W => Blk W w.heap.size 55 #[.int .i64 mp, .int .i64 mwhy, .int .i64 k, .int .i64 id, .int .i64 tt, .int .u64 (t + d)] ∧ Below w.heap.size w W), s.W.cell? ⟨w.heap.size, 4, none⟩ = some (.int .i64 tt) := fun s => (s.h.1.at_ 4).trans rfl
  have c5 : ∀ s : In (fun W => Blk W w.heap.size 55 #[.int .i64 mp, .int .i64 mwhy, .int .i64 k, .int .i64 id, .int .i64 tt, .int .u64 (t + d)] ∧ Below w.heap.size w W), s.W.cell? ⟨w.heap.size, 5, none⟩ = some (.int .u64 (t + d)) := fun s => (s.h.1.at_ 5).trans rfl
  refine wp_region_sched (fun w' => ∃ s : In (fun W => Blk W w.heap.size 55 #[.int .i64 mp, .int .i64 mwhy, .int .i64 k, .int .i64 id, .int .i64 tt, .int .u64 (t + d)] ∧ Below w.heap.size w W), w' = s.W) [0,1,2,3,4,5,6,7,8,9,10,11,12,13,14,15] (.one 16 [17] (.one 18 [] (.one 19 [20] .done))) (by kernel_rfl) (by kernel_rfl) (fun d _ _ _ _ h => by cases d <;> exact h) ⟨⟨_, ((Blk.mk_ w 55 _ _ rfl).alloc _).drew, by (focus (repeat' (first | (with_reducible exact Below.refl _ _) | (with_reducible assumption) | (with_reducible refine Below.alloc ?_ ?_ _) | (with_reducible refine below_drewN ?_ _) | (with_reducible refine Below.drew ?_) | (with_reducible refine Below.setCell ?_ ?_ _) | omega | (simp; done) | (simp; omega))))⟩, rfl⟩ ?_
  simp only [opsAt, List.getElem?_toArray, List.getElem?_cons_succ, List.getElem?_cons_zero]
  repeat (go_big_quiet_step (fail))
  refine wpQuiet_nil ?_
  (refine eff_lit rfl rfl (fun K hK => ?_))
  go_big_op
  refine (last_any B p q x _ (HR.out _ (by (focus (repeat' (first | (with_reducible exact Below.refl _ _) | (with_reducible assumption) | (with_reducible refine Below.alloc ?_ ?_ _) | (with_reducible refine below_drewN ?_ _) | (with_reducible refine Below.drew ?_) | (with_reducible refine Below.setCell ?_ ?_ _) | omega | (simp; done) | (simp; omega))))))).mono ?_
  rintro e w2 ⟨rfl, hb2⟩
  rw [HQ.out]
  have hk2 : Blk w2 w.heap.size 55 #[.int .i64 mp, .int .i64 mwhy, .int .i64 k, .int .i64 id, .int .i64 tt, .int .u64 (t + d)] := (((Blk.mk_ w 55 _ _ rfl).alloc _).drew).call hb2
  have hz2 : w.heap.size + 2 ≤ w2.heap.size := by have := hb2.size; simp at this; omega
  have hB2 : Below w.heap.size w w2 := Below.trans (by (focus (repeat' (first | (with_reducible exact Below.refl _ _) | (with_reducible assumption) | (with_reducible refine Below.alloc ?_ ?_ _) | (with_reducible refine below_drewN ?_ _) | (with_reducible refine Below.drew ?_) | (with_reducible refine Below.setCell ?_ ?_ _) | omega | (simp; done) | (simp; omega))))) (hb2.mono (by (focus (first | omega | (simp only [World.size_alloc]; done) | (simp only [World.size_alloc]; omega) | (simp; done) | (simp; omega)))))
  have ho2 : BOwns w2 w.heap.size 5 (some ⟨w.heap.size + 1, 0, none⟩) 1 1 [mp + 2 * (mwhy - 1)] := ((BOwns.lit _ w.heap.size 5 [mp + 2 * (mwhy - 1)] _ _ (fun y hy => by (rw [List.mem_singleton] at hy; subst hy; exact ⟨by omega, by omega⟩)) (by simp) rfl (by omega) (by simp)).drew).below hb2
  clear hb2
  refine hK _ _ ⟨⟨_, hk2, hB2⟩, rfl⟩ ?_
  clear hK K
  simp only [opsAt, List.getElem?_toArray, List.getElem?_cons_succ, List.getElem?_cons_zero]
  repeat (go_big_quiet_step (fail))
  refine wpQuiet_nil ?_
  (refine eff_lit rfl rfl (fun K hK => ?_))
  go_big_op
  refine hK _ _ ⟨⟨_, hk2.alloc _, by (focus (repeat' (first | (with_reducible exact Below.refl _ _) | (with_reducible assumption) | (with_reducible refine Below.alloc ?_ ?_ _) | (with_reducible refine below_drewN ?_ _) | (with_reducible refine Below.drew ?_) | (with_reducible refine Below.setCell ?_ ?_ _) | omega | (simp; done) | (simp; omega))))⟩, rfl⟩ ?_
  clear hK K
  simp only [opsAt, List.getElem?_toArray, List.getElem?_cons_succ, List.getElem?_cons_zero]
  refine wpQuiet_nil ?_
  (refine eff_lit rfl rfl (fun K hK => ?_))
  go_big_op
  refine (put_any w.heap.size (some ⟨w.heap.size + 1, 0, none⟩) 1 1 [mp + 2 * (mwhy - 1)] (some ⟨w2.heap.size, 0, none⟩) 4 4 [k, id, tt, d] _ (ho2.alloc _) (nreads_lit w2 [k, id, tt, d] _ _ rfl rfl (fun y hy => by (simp only [List.mem_cons, List.not_mem_nil, or_false] at hy; omega))) (fun _ => ⟨by simp [blkOf]; omega, fun g hg => by (simp [blkOf] at hg; simp; omega)⟩) (by omega) (by (focus (first | omega | (simp only [World.size_alloc]; done) | (simp only [World.size_alloc]; omega) | (simp; done) | (simp; omega))))).mono ?_
  rintro e w4 ⟨A4, n4, cc4, rfl, ho4, hg4, hs4⟩
  have hk4 : Blk w4 w.heap.size 55 #[.int .i64 mp, .int .i64 mwhy, .int .i64 k, .int .i64 id, .int .i64 tt, .int .u64 (t + d)] := (hk2.alloc _).grown hg4 (by simp [blkOf])
  have hB4 : Below w.heap.size w w4 := Below.trans (by (focus (repeat' (first | (with_reducible exact Below.refl _ _) | (with_reducible assumption) | (with_reducible refine Below.alloc ?_ ?_ _) | (with_reducible refine below_drewN ?_ _) | (with_reducible refine Below.drew ?_) | (with_reducible refine Below.setCell ?_ ?_ _) | omega | (simp; done) | (simp; omega))))) (grown_below hg4 (by (focus (first | omega | (simp only [World.size_alloc]; done) | (simp only [World.size_alloc]; omega) | (simp; done) | (simp; omega)))) (fun g hg => by (simp [blkOf] at hg; omega)))
  refine hK _ _ ⟨⟨_, hk4, hB4⟩, rfl⟩ ?_
  clear hK K
  simp only [opsAt, List.getElem?_toArray, List.getElem?_cons_succ, List.getElem?_cons_zero]
  repeat (go_big_quiet_step (fail))
  refine wpQuiet_nil ?_
  refine effs_done ?_
  rw [show [mp + 2 * (mwhy - 1)] ++ [k, id, tt, d].flatMap numS = hs by rw [← HHS.out]; rfl] at ho4
  have hn4 := ho4.length
  subst hn4
  have HO4 : Hid (∀ W, Below w4.heap.size w4 W → BOwns W w.heap.size 5 A4 hs.length cc4 hs) := Lib.hid fun W hb => ho4.below hb
  have hz4 := hB4.size
  clear c2 c3 c4 c5 hk2 hk4 hg4 hs4 ho2 ho4 hB2 hNE htd
  go_wp2_with fail
  refine (rsum_any B p q x _ (HR.out _ hB4)).mono ?_
  rintro e w5 ⟨rfl, hb5⟩
  have ho5 := HO4.out _ hb5
  have HO5 := Lib.hid ho5
  have hB5 : Below w.heap.size w w5 := hB4.trans (hb5.mono hz4)
  have hz5 := hB5.size
  have hlen := HL.out
  have HIB := Lib.hid ho5.reads
  clear hb5 ho5 HO4 hB4
  go_wp2
  go_loop [6, 42] (fun v i => ∃ j : Nat, j ≤ hs.length ∧ i = .int .i64 j ∧ v = .int .u32 (sumS q.sum (hs.take j))) (fun _ i => hs.length - (intOf i).toNat)
  case atStart => exact ⟨0, Nat.zero_le _, rfl, rfl⟩
  case round =>
    obtain ⟨j, hj, rfl, rfl⟩ := hrel
    by_cases hlt : j < hs.length
    · obtain ⟨ad, hA, hc, hb0, hb1⟩ := HIB.out.at_ hlt
      subst hA
      have hlt' : (j : Int) < hs.length := by omega
      have hT := Lib.hid (sumS_snoc q.sum hs j hlt)
      obtain ⟨hq0, hq1⟩ := sumS_bd (hs.take j) q.sum hs0.1 hs0.2
      generalize hq : sumS q.sum (hs.take j) = u at *
      generalize hy : nth hs j = y at *
      clear hq hy
      go_wp2
      go_round
      case rel => exact ⟨j + 1, by omega, by go_num, by rw [hT.out]; unfold sumStep; congr 1; omega⟩
      case measure => simp [intOf]; omega
    · obtain rfl : j = hs.length := by omega
      rw [List.take_length]
      obtain ⟨hu0, hu1⟩ := sumS_bd hs q.sum hs0.1 hs0.2
      generalize hu : sumS q.sum hs = u at *
      have HU := Lib.hid (be4_bytes hu0 hu1)
      have HRU := Lib.hid hu
      go_wp2_with (at_builtin; refine append_bytes _ ?_ (.tmp 52) (.tmp 64) 35 ?_ w.heap.size 5 Tryd.info5 Tryd.underlying35 A4 hs.length cc4 hs ?_ (HO5.out.alloc _) (some ⟨w5.heap.size, 0, none⟩) 4 4 (be4 u) ?_ (fun h => by cases h) ?_ ?_ ?_ ?_; rfl; rfl; rfl; rfl; exact BReads.lit _ _ (be4 u) _ _ HU.out rfl rfl; omega; (focus (first | omega | (simp only [World.size_alloc]; done) | (simp only [World.size_alloc]; omega) | (simp; done) | (simp; omega))); intro A6 c6 w6 ho6 hb6)
      go_ret
      have hr : rs = hs ++ be4 u := by rw [← HRS.out]
      refine ⟨A6, c6, ?_, ?_, Below.trans (by (focus (repeat' (first | (with_reducible exact Below.refl _ _) | (with_reducible assumption) | (with_reducible refine Below.alloc ?_ ?_ _) | (with_reducible refine below_drewN ?_ _) | (with_reducible refine Below.drew ?_) | (with_reducible refine Below.setCell ?_ ?_ _) | omega | (simp; done) | (simp; omega))))) hb6⟩
      · rw [hr, List.length_append, be4_len]
        rfl
      · rw [hr, List.length_append, be4_len]
        exact ho6
end Go.Proofs.YtpbbemmjodegkaaDoor
