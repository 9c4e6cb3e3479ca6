/-
  The law's right: Read of bytes against the law's read.
-/
import Derived.Test.YthckmcpngpigkaaLRd
set_option linter.unusedSimpArgs false
set_option linter.unusedVariables false
namespace Go.Proofs.Ythckmcpngpigkaa
open Go.RowKit

theorem BOwns.cap {w : World} {base : Nat} {e : TypeId} {A : Option Addr} {n cap : Nat} {xs : List Int} (h : BOwns w base e A n cap xs) : n ≤ cap ∧ cap ≤ 9223372036854775807 := by
  rcases h.1.2 with ⟨h0, h1⟩ | ⟨g, c, cur, h1, h2, h3, h4, h5, _⟩
  · injection h0 with _ _ h0
    omega
  · injection h1 with _ _ h1
    unfold maxLen at h5
    omega
theorem BOwns.blkIn {w w1 : World} {e : TypeId} {A : Option Addr} {n cap : Nat} {xs : List Int} (h : BOwns w1 w.heap.size e A n cap xs) : ∀ i, blkOf A = some i → w.heap.size ≤ i ∧ i < w1.heap.size := fun i hi => ⟨own_blk h i hi, own_lt h i hi⟩

set_option maxRecDepth 100000 in
set_option maxHeartbeats 1600000 in
theorem right_any (key : Int) (A : Option Addr) (n c : Nat) (xs : List Int) (w : World) (hk : 0 ≤ key ∧ key ≤ 4294967295) (hx : BReads w A n xs) (hc : n ≤ c) (hc2 : c ≤ 9223372036854775807) (hA : A = none → c = 0) (hn : n ≤ 100000) : Calls Try.prog 8 #[.int .u32 key, .slice A n c] w fun e w' => e = .returned (.bool true) ∧ Below w.heap.size w w' := by
  have HX : Hid (∀ W, Below w.heap.size w W → BReads W A n xs) := fun W hb => hx.below hb
  have HX0 := Lib.hid hx
  have HA := Lib.hid hA
  have HK := Lib.hid hk
  clear hx hA hk
  go_enter Try.func8, Try.ntmps8
  go_wp2_with (first
    | (at_builtin; refine append_nil (w := w) ?_ (.const (.slice none 0 0)) (.tmp 11) 23 ?_ 5 (.int .u8 0) 1 1 Try.info5 Try.underlying23 rfl (by decide) ?_ A n c (bys xs) ?_ HA.out HX0.out.1 (bys_one _) ?_ ?_ ?_; rfl; rfl; rfl; rfl; omega; omega; intro A1 c1 w1 ho1 hb1; have HO1 := Lib.hid (ho1.b HX0.out.2); have hz1 := hb1.size; have HI1 := Lib.hid (HO1.out.blkIn); have HC1 := Lib.hid HO1.out.cap; clear ho1)
    | (go_at_call 24; refine (lread_any key A n c xs _ HK.out (HX.out _ hb1) hc hc2).mono ?_; rintro e w2 ⟨y, rfl, hM, hb2, hF⟩; have HM2 := Lib.hid hM; have HF := Lib.hid hF; have HO2 := Lib.hid (HO1.out.below hb2); have hz2 := hb2.size; have hzm := hM.blk.lt; clear hM hF)
    | (go_at_call 14; refine (readr_any key A1 n c1 xs _ HK.out HO2.out.reads HC1.out.1 HC1.out.2 HO2.out.2.2).mono ?_; rintro e w3 ⟨x, rfl, hR, hb3⟩; have HR3 := Lib.hid hR; have HM3 := Lib.hid (HM2.out.below hb3); have HO3 := Lib.hid (HO2.out.below hb3); have hz3 := hb3.size; have hB3 : Below w.heap.size w w3 := (hb1.trans (hb2.mono (by omega))).trans (hb3.mono (by omega)); have g1 := convert_bytes (P := Try.prog) HO3.out.reads c1 23 5 Try.underlying23 Try.underlying5 9 Try.underlying9; have g2 := convert_bytes (P := Try.prog) (HX.out _ hB3) c 23 5 Try.underlying23 Try.underlying5 9 Try.underlying9; clear hR)
    | (go_at_call 17; refine (alike_any w2.heap.size w2.heap.size w1.heap.size _ x y _ HR3.out HM3.out).mono ?_; rintro e w4 ⟨rfl, hb4⟩; have HR4 := Lib.hid (HR3.out.below hb4); have HM4 := Lib.hid (HM3.out.below hb4); have HO4 := Lib.hid (OwnB.of (HO3.out.below hb4)); have hB4 := below_call hB3 hb4 hB3.size; have hz4 := hB4.size; clear g1 g2)
    | fail)
  generalize hq : readS (st0 key) xs = q at *
  have HNR : Hid (∀ i, Foot w2.heap.size x i → ¬ (w.heap.size ≤ i ∧ i < w1.heap.size)) := Lib.hid fun i hi hh => by
    have := (HR3.out.foot i hi).1
    omega
  have HNM : Hid (∀ i, FootM w1.heap.size y i → ¬ (w.heap.size ≤ i ∧ i < w1.heap.size)) := Lib.hid fun i hi hh => by
    have := HF.out i hi
    omega
  clear hq HX HX0 HO1 HO2 HO3 HM2 HM3 HR3 HF
  go_loopw [10] (fun i W => ∃ k : Nat, k ≤ n ∧ i = .int .i64 k ∧ OwnB W w.heap.size A1 n ∧ OnlyF (fun i => w.heap.size ≤ i ∧ i < w1.heap.size) w4 W) (fun i _ => n - (intOf i).toNat)
  case atStart => exact ⟨0, Nat.zero_le _, rfl, HO4.out, OnlyF.of_below (Below.refl _ _)⟩
  case round =>
    obtain ⟨k, hk, rfl, hO, hF⟩ := hrel
    by_cases hlt : k < n
    · have hlt' : (k : Int) < n := by omega
      obtain ⟨g1, cs, rfl, hg1, hk1, hs1⟩ := hO (by omega)
      obtain ⟨v, hv⟩ := hs1 k hlt
      have hcell : wr.cell? ⟨g1, k, none⟩ = some (.int .u8 v) := (hk1.at_ k).trans hv
      have hfree := hk1.free k
      have HK1 := Lib.hid hk1
      have HS1 := Lib.hid hs1
      have HFF := Lib.hid hF
      clear hO hk1 hs1 hv HO4 hF
      go_wp2
      go_roundw
      case rel => exact ⟨k + 1, by omega, by go_num, OwnB.put rfl hg1 HK1.out HS1.out _ _, HFF.out.put (p := ⟨g1, k, none⟩) (.inl (HI1.out g1 rfl)) _⟩
      case measure => simp [intOf]; omega
    · obtain rfl : k = n := by omega
      have HRW := Lib.hid (HR4.out.onlyF hF HNR.out)
      have HMW := Lib.hid (HM4.out.onlyF hF HNM.out)
      have hBW : Below w.heap.size w wr := hB4.trans (hF.below (by omega) (fun i hi => hi.1))
      have hzw := hBW.size
      clear hO hF HO4
      go_wp2_with fail
      refine (alike_any w2.heap.size w2.heap.size w1.heap.size q x y _ HRW.out HMW.out).mono ?_
      rintro e w5 ⟨rfl, hb5⟩
      go_wp2
      go_ret
      exact ⟨rfl, below_call hBW hb5 hzw⟩
end Go.Proofs.Ythckmcpngpigkaa
