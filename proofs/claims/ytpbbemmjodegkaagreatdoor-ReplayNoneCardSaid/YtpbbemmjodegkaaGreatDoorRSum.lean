/-
  (*Replay).Sum.
-/
import Derived.Test.YtpbbemmjodegkaaGreatDoorRep
set_option linter.unusedSimpArgs false
set_option linter.unusedVariables false
namespace Go.Proofs.YtpbbemmjodegkaaGreatDoor
open Go.RowKit

theorem add_g (g k : Nat) : (⟨g, 0, none⟩ : Addr).add k = ⟨g, k, none⟩ := by
  unfold Addr.add
  split <;> simp_all
/-- The first k of the four bytes, as a number. -/
def pre4 (s : Int) : Nat → Int
  | 0 => 0
  | 1 => s / 16777216
  | 2 => s / 65536
  | 3 => s / 256
  | _ => s
def at4 (s : Int) (k : Nat) : Int := (be4 s).getD k 0
theorem pre4_bd {s : Int} (h0 : 0 ≤ s) (h1 : s ≤ 4294967295) (k : Nat) (hk : k < 4) : 0 ≤ pre4 s k ∧ pre4 s k < 16777216 ∧ 0 ≤ at4 s k ∧ at4 s k ≤ 255 ∧ pre4 s (k + 1) = pre4 s k * 256 + at4 s k := by
  match k, hk with
  | 0, _ => simp only [pre4, at4, be4, List.getD_cons_zero]; omega
  | 1, _ => simp only [pre4, at4, be4, List.getD_cons_succ, List.getD_cons_zero]; omega
  | 2, _ => simp only [pre4, at4, be4, List.getD_cons_succ, List.getD_cons_zero]; omega
  | 3, _ => simp only [pre4, at4, be4, List.getD_cons_succ, List.getD_cons_zero]; omega
theorem or_u32 {a y : Int} (h0 : 0 ≤ a) (h1 : a < 16777216) (hy0 : 0 ≤ y) (hy1 : y ≤ 255) : bits .or .u32 (a * 256) y = a * 256 + y := by
  obtain ⟨n, rfl⟩ : ∃ n : Nat, a = n := ⟨a.toNat, by omega⟩
  obtain ⟨m, rfl⟩ : ∃ m : Nat, y = m := ⟨y.toNat, by omega⟩
  show IntKind.u32.wrap ((BitVec.ofInt 32 ((n : Int) * 256) ||| BitVec.ofInt 32 (m : Int)).toNat : Int) = _
  rw [BitVec.toNat_or, BitVec.toNat_ofInt, BitVec.toNat_ofInt]
  have e1 : ((n : Int) * 256 % ((2 ^ 32 : Nat) : Int)).toNat = n <<< 8 := by
    have : ((2 ^ 32 : Nat) : Int) = 4294967296 := by decide
    rw [this, Nat.shiftLeft_eq]
    omega
  have e2 : ((m : Int) % ((2 ^ 32 : Nat) : Int)).toNat = m := by
    have : ((2 ^ 32 : Nat) : Int) = 4294967296 := by decide
    rw [this]
    omega
  rw [e1, e2, ← Nat.shiftLeft_add_eq_or_of_lt (by omega), Nat.shiftLeft_eq, IntKind.wrap_u32]
  omega

set_option maxHeartbeats 800000 in
theorem rsum_any (B p : Nat) (q : St) (x : RpC) (w : World) (h : Rp w B p q x) : Calls Tryz.prog 18 #[.pointer (some ⟨p, 0, none⟩)] w fun e w' => e = .returned (.int .u32 q.sum) ∧ Below w.heap.size w w' := by
  have x0 := (h.blk.at_ 0).trans rfl
  have x1 := (h.blk.at_ 1).trans rfl
  have hn := h.n_eq
  rcases Nat.eq_zero_or_pos q.mv.length with h0 | h0
  · have hl := Lib.hid (h.ok.nil_ h0).2.1
    rw [(h.ok.nil_ h0).1] at hn
    simp only [List.length_nil] at hn
    rw [hn] at x1
    clear h hn h0
    go_enter Tryz.func18, Tryz.ntmps18
    go_wp2
    go_ret
    exact ⟨by rw [hl.out]; rfl, Below.refl _ _⟩
  · obtain ⟨d, hd⟩ := (h.ok.cons_ h0).1
    have hs := h.ok.sum0
    obtain ⟨g, c, hv, _, _⟩ := h.data.1.form (by rw [hn, hd, List.length_append, be4_len]; omega)
    have hlen : q.data.length = d.length + 4 := by rw [hd]; simp [be4_len]
    have hcells : ∀ j, j < 4 → w.cell? ⟨g, d.length + j, none⟩ = some (.int .u8 (at4 q.sum j)) := by
      intro j hj
      obtain ⟨ad, e, _, hcell⟩ := h.data.reads.2 (by omega)
      injection hv with hv
      rw [hv] at e
      injection e with e
      subst e
      have := hcell (d.length + j) (.int .u8 (at4 q.sum j)) (by
        rw [hd, bys, List.getElem?_map, List.getElem?_append_right (by omega), show d.length + j - d.length = j by omega, List.getElem?_eq_getElem (by rw [be4_len]; exact hj)]
        simp [at4, List.getD, List.getElem?_eq_getElem (show j < (be4 q.sum).length by rw [be4_len]; exact hj)])
      rwa [add_g] at this
    have hcap : x.n ≤ x.c ∧ x.c ≤ 9223372036854775807 := by
      rcases h.data.1.2 with ⟨_, hz⟩ | ⟨g', c', cur, h1, _, _, h2, h3, _⟩
      · omega
      · injection h1 with _ _ h1
        unfold maxLen at h3
        omega
    injection hv with hv
    rw [hv, hn, hlen] at x1
    rw [hn, hlen] at hcap
    obtain ⟨hc1, hc2⟩ := hcap
    have HP : Hid (∀ k, k < 4 → 0 ≤ pre4 q.sum k ∧ pre4 q.sum k < 16777216 ∧ 0 ≤ at4 q.sum k ∧ at4 q.sum k ≤ 255 ∧ pre4 q.sum (k + 1) = pre4 q.sum k * 256 + at4 q.sum k) := Lib.hid (pre4_bd hs.1 hs.2)
    have HC := Lib.hid hcells
    generalize hk : d.length = k at *
    generalize hx : x.c = xc at *
    have hne : ¬ xc = k := by omega
    clear h hn hd hlen hcells hk hv h0 hs hx
    go_enter Tryz.func18, Tryz.ntmps18
    go_wp2
    go_quiet (fail)
    go_wp2
    obtain ⟨wn, hwn⟩ : ∃ wn : World, wn = w.drewN nq := ⟨_, rfl⟩
    go_loop [3, 32] (fun v i => ∃ j : Nat, j ≤ 4 ∧ i = .int .i64 j ∧ v = .int .u32 (pre4 q.sum j)) (fun _ i => 4 - (intOf i).toNat)
    case atStart => exact ⟨0, by omega, rfl, rfl⟩
    case round =>
      obtain ⟨j, hj, rfl, rfl⟩ := hrel
      by_cases hlt : j < 4
      · have hc := HC.out j hlt
        obtain ⟨p0, p1, p2, p3, p4⟩ := HP.out j hlt
        have ho := or_u32 p0 p1 p2 p3
        have H4 := Lib.hid p4
        clear p4
        generalize pre4 q.sum j = a at *
        generalize at4 q.sum j = y at *
        go_wp2
        go_round
        case rel => exact ⟨j + 1, by omega, by go_num, by rw [H4.out]⟩
        case measure => simp [intOf]; omega
      · obtain rfl : j = 4 := by omega
        go_wp2
        go_ret
        exact ⟨rfl, by (focus (repeat' (first | (with_reducible exact Below.refl _ _) | (with_reducible assumption) | (with_reducible refine Below.alloc ?_ ?_ _) | (with_reducible refine below_drewN ?_ _) | (with_reducible refine Below.drew ?_) | (with_reducible refine Below.setCell ?_ ?_ _) | omega | (simp; done) | (simp; omega))))⟩
end Go.Proofs.YtpbbemmjodegkaaGreatDoor
