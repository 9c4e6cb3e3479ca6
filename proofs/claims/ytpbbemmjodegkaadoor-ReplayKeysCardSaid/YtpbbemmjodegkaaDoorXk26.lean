/-
  Texts: ReadR.
-/
import Derived.Test.YtpbbemmjodegkaaDoorXk25
import Derived.Test.YtpbbemmjodegkaaDoorXk1
import Derived.Deep.LoopGhost
import Derived.Deep.QuietTactic
import Derived.BigQuiet
set_option linter.unusedSimpArgs false
set_option linter.unusedVariables false
namespace Go.Proofs.YtpbbemmjodegkaaDoor
open Go.RowKit

theorem next_any (B p : Nat) (q : St) (x : RpC) (A : Option Addr) (n c : Nat) (xs : List Int) (w : World) (h : Rp w B p q x) (hx : BReads w A n xs) (hc : n ≤ c) (hc2 : c ≤ 9223372036854775807) : Calls Tryd.prog 49 #[.pointer (some ⟨p, 0, none⟩), .slice A n c] w (NextEnd q.last xs w) := by
  have hl := hx.length
  cases xs with
  | nil =>
    obtain rfl : n = 0 := by simpa using hl.symm
    exact next_nil B p q x A c w h
  | cons b r =>
    obtain ⟨k, rfl⟩ : ∃ k, n = k + 1 := ⟨n - 1, by simp at hl; omega⟩
    exact next_cons B p q x A k c b r w h hx hc hc2

def ReadEnd (key : Int) (xs : List Int) (w : World) (e : Ending) (w' : World) : Prop := ∃ x, e = .returned (.tuple #[.pointer (some ⟨w.heap.size, 0, none⟩), .int .i64 (readS (st0 key) xs).data.length]) ∧ Rp w' w.heap.size w.heap.size (readS (st0 key) xs) x ∧ Below w.heap.size w w'

theorem ReadEnd.mk_ {key : Int} {xs : List Int} {w W : World} {q : St} {x : RpC} {n : Nat} {e : Ending} (h : Rp W w.heap.size w.heap.size q x) (hf : readS (st0 key) xs = q) (hn : n = q.data.length) (hB : Below w.heap.size w W) (he : e = .returned (.tuple #[.pointer (some ⟨w.heap.size, 0, none⟩), .int .i64 n]) := by rfl) : ReadEnd key xs w e W := by
  subst hf
  exact ⟨x, by rw [he, hn], h, hB⟩

set_option maxRecDepth 100000 in
set_option maxHeartbeats 1600000 in
theorem readr_any (key : Int) (A : Option Addr) (n c : Nat) (xs : List Int) (w : World) (hk : 0 ≤ key ∧ key ≤ 4294967295) (hx : BReads w A n xs) (hc : n ≤ c) (hc2 : c ≤ 9223372036854775807) (hA : A = none → c = 0) : Calls Tryd.prog 31 #[.int .u32 key, .slice A n c] w (ReadEnd key xs w) := by
  have HX : Hid (∀ W, Below w.heap.size w W → BReads W A n xs) := fun W hb => hx.below hb
  have HL := Lib.hid hx.length
  have HA := Lib.hid hA
  have HK := Lib.hid hk
  clear hx hk hA
  go_enter Tryd.func31, Tryd.ntmps31
  go_wp2_with fail
  refine (new_any key _ HK.out).mono ?_
  rintro e w1 ⟨rfl, hR1, hb1⟩
  have hz1 := hR1.blk.lt
  go_wp2
  go_loopg [4] xs.length (fun k v W => ∃ (q : St) (x : RpC), k = xs.length - q.data.length ∧ v = .pointer (some ⟨w.heap.size, 0, none⟩) ∧ Rp W w.heap.size w.heap.size q x ∧ Below w.heap.size w W ∧ q.data <+: xs ∧ Hid (readS (st0 key) xs = readS q (xs.drop q.data.length)))
  case atStart => exact ⟨st0 key, _, rfl, rfl, hR1, hb1, List.nil_prefix, Lib.hid rfl⟩
  case round =>
    obtain ⟨q, x, rfl, rfl, hR, hB, hpx, HE⟩ := hrel
    have HR := Lib.hid hR
    have hzr := hR.blk.lt
    have x1 := (hR.blk.at_ 1).trans rfl
    have HNQ := Lib.hid hR.n_eq
    have HDR : Hid (xs.drop x.n = xs.drop q.data.length) := Lib.hid (by rw [HNQ.out])
    have hxn : x.n ≤ n := by have := hpx.length_le; have h2 := HL.out; have h3 := HNQ.out; omega
    have hxn' : (x.n : Int) ≤ n := by omega
    clear hR hR1 hb1 hz1
    by_cases hcs : c = x.n
    · have hcut := (HX.out _ hB).cut' (k := x.n) (by omega) hc
      rw [if_pos hcs, HDR.out] at hcut
      have HCUT := Lib.hid hcut
      have HCS := Lib.hid hcs
      have hcs' : (c = x.n) = True := eq_true hcs
      clear hcut hcs
      go_wp2_with fail
      refine (next_any w.heap.size w.heap.size q x _ _ _ _ _ HR.out HCUT.out (by omega) (by omega)).mono ?_
      rintro e w2 ⟨m, is, rfl, hnx, hb2⟩
      have HNX := Lib.hid hnx
      have hz2 := hb2.size
      have hB2 : Below w.heap.size w w2 := hB.trans (hb2.mono (by omega))
      have HR2 := Lib.hid (HR.out.below hb2)
      clear hnx hb2
      cases is with
      | false =>
        have HACC : Hid (acc q.last q.sum (xs.drop q.data.length) = none) := Lib.hid (by unfold acc; rw [HNX.out]; rfl)
        have HFIN : Hid (readS (st0 key) xs = q) := Lib.hid (by rw [HE.out, readS_stop HACC.out])
        have z1 := (HR2.out.blk.at_ 1).trans rfl
        have HNE := Lib.hid HR2.out.n_eq
        have hz2' := HR2.out.blk.lt
        go_wp2
        go_quiet (fail)
        go_wp2
        go_ret2
        exact ReadEnd.mk_ (HR2.out.below (by (focus (repeat' (first | (with_reducible exact Below.refl _ _) | (with_reducible assumption) | (with_reducible refine Below.alloc ?_ ?_ _) | (with_reducible refine below_drewN ?_ _) | (with_reducible refine Below.drew ?_) | (with_reducible refine Below.setCell ?_ ?_ _) | omega | (simp; done) | (simp; omega)))))) HFIN.out HNE.out (by (focus (repeat' (first | (with_reducible exact Below.refl _ _) | (with_reducible assumption) | (with_reducible refine Below.alloc ?_ ?_ _) | (with_reducible refine below_drewN ?_ _) | (with_reducible refine Below.drew ?_) | (with_reducible refine Below.setCell ?_ ?_ _) | omega | (simp; done) | (simp; omega)))))
      | true =>
        cases hkept : keptB m with
        | false =>
          have HKEPT := Lib.hid hkept
          clear hkept
          have HACC : Hid (acc q.last q.sum (xs.drop q.data.length) = none) := Lib.hid (by unfold acc; rw [HNX.out]; simp [HKEPT.out])
          have HFIN : Hid (readS (st0 key) xs = q) := Lib.hid (by rw [HE.out, readS_stop HACC.out])
          go_wp2_with fail
          refine (kept_f HKEPT.out _).mono ?_
          rintro e w3 ⟨rfl, hb3⟩
          have hb3' : Below w2.heap.size w2 w3 := Below.trans (by (focus (repeat' (first | (with_reducible exact Below.refl _ _) | (with_reducible assumption) | (with_reducible refine Below.alloc ?_ ?_ _) | (with_reducible refine below_drewN ?_ _) | (with_reducible refine Below.drew ?_) | (with_reducible refine Below.setCell ?_ ?_ _) | omega | (simp; done) | (simp; omega))))) (hb3.mono (by simp))
          have HR3 := Lib.hid (HR2.out.below hb3')
          have hB3 : Below w.heap.size w w3 := hB2.trans (hb3'.mono (by omega))
          have z1 := (HR3.out.blk.at_ 1).trans rfl
          have HNE := Lib.hid HR3.out.n_eq
          clear hb3 hb3'
          go_wp2
          go_quiet (fail)
          go_wp2
          go_ret2
          exact ReadEnd.mk_ (HR3.out.below (by (focus (repeat' (first | (with_reducible exact Below.refl _ _) | (with_reducible assumption) | (with_reducible refine Below.alloc ?_ ?_ _) | (with_reducible refine below_drewN ?_ _) | (with_reducible refine Below.drew ?_) | (with_reducible refine Below.setCell ?_ ?_ _) | omega | (simp; done) | (simp; omega)))))) HFIN.out HNE.out (by (focus (repeat' (first | (with_reducible exact Below.refl _ _) | (with_reducible assumption) | (with_reducible refine Below.alloc ?_ ?_ _) | (with_reducible refine below_drewN ?_ _) | (with_reducible refine Below.drew ?_) | (with_reducible refine Below.setCell ?_ ?_ _) | omega | (simp; done) | (simp; omega)))))
        | true =>
          have HKEPT := Lib.hid hkept
          clear hkept
          have hnb := next_bd HNX.out
          have hfits : Hid (fits q m) := Lib.hid ⟨HKEPT.out, hnb.1, hnb.2⟩
          have hz2' := HR2.out.blk.lt
          have hm0 := Blk.mk_ w2 55 #[.int .i64 m.p, .int .i64 m.why, .int .i64 m.k, .int .i64 m.id, .int .i64 m.to, .int .u64 m.at_] _ rfl
          have HM0 := Lib.hid hm0
          clear hm0
          go_wp2_with fail
          refine (kept_t HKEPT.out _).mono ?_
          rintro e w3 ⟨rfl, hb3⟩
          have HM3 := Lib.hid (HM0.out.call hb3)
          have hz3 : w2.heap.size + 1 ≤ w3.heap.size := by have := hb3.size; simpa using this
          have hb3' : Below w2.heap.size w2 w3 := Below.trans (by (focus (repeat' (first | (with_reducible exact Below.refl _ _) | (with_reducible assumption) | (with_reducible refine Below.alloc ?_ ?_ _) | (with_reducible refine below_drewN ?_ _) | (with_reducible refine Below.drew ?_) | (with_reducible refine Below.setCell ?_ ?_ _) | omega | (simp; done) | (simp; omega))))) (hb3.mono (by simp))
          have HR3 := Lib.hid (HR2.out.below hb3')
          have hB3 : Below w.heap.size w w3 := hB2.trans (hb3'.mono (by omega))
          have m0 := (HM3.out.at_ 0).trans rfl
          have m1 := (HM3.out.at_ 1).trans rfl
          have m2 := (HM3.out.at_ 2).trans rfl
          have m3 := (HM3.out.at_ 3).trans rfl
          have m4 := (HM3.out.at_ 4).trans rfl
          have m5 := (HM3.out.at_ 5).trans rfl
          clear hb3
          go_wp2_with fail
          refine (rec_any w.heap.size w.heap.size q x m _ HR3.out hfits.out).mono ?_
          rintro e w4 ⟨A4, c4, rfl, ho4, hb4⟩
          have HM4 := Lib.hid (HM3.out.call hb4)
          have hz4 := hb4.size
          have HR4 := Lib.hid (HR3.out.below hb4)
          have hB4 : Below w.heap.size w w4 := hB3.trans (hb4.mono (by omega))
          have HO4 := Lib.hid ho4
          have hrl := rec_len q.last q.sum m
          have hdl := hdr_le (t := q.last) HKEPT.out HR4.out.ok.last0.1 hnb.2
          have hrec : (recS q.last q.sum m).length ≤ 24 := by omega
          have HCUT4 := Lib.hid ((HX.out _ hB4).cut' (k := x.n) (by omega) hc)
          clear m0 m1 m2 m3 m4 m5 hrl hdl ho4 hb4 hb3'
          go_wp2_with fail
          refine (prefix_any _ _ _ _ _ _ _ _ _ (by have h := HCUT4.out; rw [if_pos HCS.out, HDR.out] at h; exact h) HO4.out.reads (by omega) (by omega) (by omega)).mono ?_
          rintro e w5 ⟨rfl, rfl⟩
          by_cases hpre : recS q.last q.sum m <+: xs.drop q.data.length
          · have HACC : Hid (acc q.last q.sum (xs.drop q.data.length) = some m) := Lib.hid (acc_of_rec HR4.out.ok.last0.1 ⟨HKEPT.out, hnb.1, hnb.2, hpre⟩)
            have HPRE := Lib.hid hpre
            rw [decide_eq_true hpre]
            clear hpre
            have m0 := (HM4.out.at_ 0).trans rfl
            have m1 := (HM4.out.at_ 1).trans rfl
            have m2 := (HM4.out.at_ 2).trans rfl
            have m3 := (HM4.out.at_ 3).trans rfl
            have m4 := (HM4.out.at_ 4).trans rfl
            have m5 := (HM4.out.at_ 5).trans rfl
            by_cases hcnt : q.mv.length < 4096
            · go_wp2_with fail
              refine (app_ok w.heap.size w.heap.size q x m _ HR4.out hfits.out hcnt).mono ?_
              rintro e w6 ⟨x', rfl, hR6, ho6, _⟩
              have hB6 : Below w.heap.size w w6 := hB4.trans (ho6.below (by omega) (fun i hi => (HR4.out.foot i hi).1))
              have HR6 := Lib.hid hR6
              clear hR6 ho6 m0 m1 m2 m3 m4 m5
              go_wp2
              go_roundg (xs.length - (q.add m).data.length)
              case measure =>
                have h1 := HPRE.out.length_le
                have h2 := rec_len q.last q.sum m
                rw [List.length_drop] at h1
                simp only [St.add, List.length_append]
                omega
              case rel => exact ⟨q.add m, x', rfl, rfl, HR6.out, hB6, (by
                obtain ⟨ys, hys⟩ := HPRE.out
                refine ⟨ys, ?_⟩
                simp only [St.add]
                rw [List.append_assoc, hys]
                obtain ⟨zs, hzs⟩ := hpx
                rw [← hzs]
                simp), Lib.hid (by
                rw [HE.out, readS_step HACC.out hcnt, List.drop_drop]
                simp only [St.add, List.length_append])⟩
            · have HFIN : Hid (readS (st0 key) xs = q) := Lib.hid (by rw [HE.out, readS_full hcnt])
              go_wp2_with fail
              refine (app_full w.heap.size w.heap.size q x m _ HR4.out hfits.out hcnt).mono ?_
              rintro e w6 ⟨rfl, hb6⟩
              have hB6 : Below w.heap.size w w6 := hB4.trans (hb6.mono (by omega))
              have HRF := Lib.hid (HR4.out.below hb6)
              have z1 := (HRF.out.blk.at_ 1).trans rfl
              have HNE := Lib.hid HRF.out.n_eq
              clear hb6 m0 m1 m2 m3 m4 m5
              go_wp2
              go_quiet (fail)
              go_wp2
              go_ret2
              exact ReadEnd.mk_ (HRF.out.below (by (focus (repeat' (first | (with_reducible exact Below.refl _ _) | (with_reducible assumption) | (with_reducible refine Below.alloc ?_ ?_ _) | (with_reducible refine below_drewN ?_ _) | (with_reducible refine Below.drew ?_) | (with_reducible refine Below.setCell ?_ ?_ _) | omega | (simp; done) | (simp; omega)))))) HFIN.out HNE.out (by (focus (repeat' (first | (with_reducible exact Below.refl _ _) | (with_reducible assumption) | (with_reducible refine Below.alloc ?_ ?_ _) | (with_reducible refine below_drewN ?_ _) | (with_reducible refine Below.drew ?_) | (with_reducible refine Below.setCell ?_ ?_ _) | omega | (simp; done) | (simp; omega)))))
          · have HACC : Hid (acc q.last q.sum (xs.drop q.data.length) = none) := Lib.hid (by unfold acc; rw [HNX.out]; simp [hpre])
            have HFIN : Hid (readS (st0 key) xs = q) := Lib.hid (by rw [HE.out, readS_stop HACC.out])
            rw [decide_eq_false hpre]
            clear hpre
            have z1 := (HR4.out.blk.at_ 1).trans rfl
            have HNE := Lib.hid HR4.out.n_eq
            go_wp2
            go_quiet (fail)
            go_wp2
            go_ret2
            exact ReadEnd.mk_ (HR4.out.below (by (focus (repeat' (first | (with_reducible exact Below.refl _ _) | (with_reducible assumption) | (with_reducible refine Below.alloc ?_ ?_ _) | (with_reducible refine below_drewN ?_ _) | (with_reducible refine Below.drew ?_) | (with_reducible refine Below.setCell ?_ ?_ _) | omega | (simp; done) | (simp; omega)))))) HFIN.out HNE.out (by (focus (repeat' (first | (with_reducible exact Below.refl _ _) | (with_reducible assumption) | (with_reducible refine Below.alloc ?_ ?_ _) | (with_reducible refine below_drewN ?_ _) | (with_reducible refine Below.drew ?_) | (with_reducible refine Below.setCell ?_ ?_ _) | omega | (simp; done) | (simp; omega)))))
    · have hcut := (HX.out _ hB).cut' (k := x.n) (by omega) hc
      rw [if_neg hcs, HDR.out] at hcut
      have HCUT := Lib.hid hcut
      have HCS := Lib.hid hcs
      have hcs' : (c = x.n) = False := eq_false hcs
      clear hcut hcs
      go_wp2_with fail
      refine (next_any w.heap.size w.heap.size q x _ _ _ _ _ HR.out HCUT.out (by omega) (by omega)).mono ?_
      rintro e w2 ⟨m, is, rfl, hnx, hb2⟩
      have HNX := Lib.hid hnx
      have hz2 := hb2.size
      have hB2 : Below w.heap.size w w2 := hB.trans (hb2.mono (by omega))
      have HR2 := Lib.hid (HR.out.below hb2)
      clear hnx hb2
      cases is with
      | false =>
        have HACC : Hid (acc q.last q.sum (xs.drop q.data.length) = none) := Lib.hid (by unfold acc; rw [HNX.out]; rfl)
        have HFIN : Hid (readS (st0 key) xs = q) := Lib.hid (by rw [HE.out, readS_stop HACC.out])
        have z1 := (HR2.out.blk.at_ 1).trans rfl
        have HNE := Lib.hid HR2.out.n_eq
        have hz2' := HR2.out.blk.lt
        go_wp2
        go_quiet (fail)
        go_wp2
        go_ret2
        exact ReadEnd.mk_ (HR2.out.below (by (focus (repeat' (first | (with_reducible exact Below.refl _ _) | (with_reducible assumption) | (with_reducible refine Below.alloc ?_ ?_ _) | (with_reducible refine below_drewN ?_ _) | (with_reducible refine Below.drew ?_) | (with_reducible refine Below.setCell ?_ ?_ _) | omega | (simp; done) | (simp; omega)))))) HFIN.out HNE.out (by (focus (repeat' (first | (with_reducible exact Below.refl _ _) | (with_reducible assumption) | (with_reducible refine Below.alloc ?_ ?_ _) | (with_reducible refine below_drewN ?_ _) | (with_reducible refine Below.drew ?_) | (with_reducible refine Below.setCell ?_ ?_ _) | omega | (simp; done) | (simp; omega)))))
      | true =>
        cases hkept : keptB m with
        | false =>
          have HKEPT := Lib.hid hkept
          clear hkept
          have HACC : Hid (acc q.last q.sum (xs.drop q.data.length) = none) := Lib.hid (by unfold acc; rw [HNX.out]; simp [HKEPT.out])
          have HFIN : Hid (readS (st0 key) xs = q) := Lib.hid (by rw [HE.out, readS_stop HACC.out])
          go_wp2_with fail
          refine (kept_f HKEPT.out _).mono ?_
          rintro e w3 ⟨rfl, hb3⟩
          have hb3' : Below w2.heap.size w2 w3 := Below.trans (by (focus (repeat' (first | (with_reducible exact Below.refl _ _) | (with_reducible assumption) | (with_reducible refine Below.alloc ?_ ?_ _) | (with_reducible refine below_drewN ?_ _) | (with_reducible refine Below.drew ?_) | (with_reducible refine Below.setCell ?_ ?_ _) | omega | (simp; done) | (simp; omega))))) (hb3.mono (by simp))
          have HR3 := Lib.hid (HR2.out.below hb3')
          have hB3 : Below w.heap.size w w3 := hB2.trans (hb3'.mono (by omega))
          have z1 := (HR3.out.blk.at_ 1).trans rfl
          have HNE := Lib.hid HR3.out.n_eq
          clear hb3 hb3'
          go_wp2
          go_quiet (fail)
          go_wp2
          go_ret2
          exact ReadEnd.mk_ (HR3.out.below (by (focus (repeat' (first | (with_reducible exact Below.refl _ _) | (with_reducible assumption) | (with_reducible refine Below.alloc ?_ ?_ _) | (with_reducible refine below_drewN ?_ _) | (with_reducible refine Below.drew ?_) | (with_reducible refine Below.setCell ?_ ?_ _) | omega | (simp; done) | (simp; omega)))))) HFIN.out HNE.out (by (focus (repeat' (first | (with_reducible exact Below.refl _ _) | (with_reducible assumption) | (with_reducible refine Below.alloc ?_ ?_ _) | (with_reducible refine below_drewN ?_ _) | (with_reducible refine Below.drew ?_) | (with_reducible refine Below.setCell ?_ ?_ _) | omega | (simp; done) | (simp; omega)))))
        | true =>
          have HKEPT := Lib.hid hkept
          clear hkept
          have hnb := next_bd HNX.out
          have hfits : Hid (fits q m) := Lib.hid ⟨HKEPT.out, hnb.1, hnb.2⟩
          have hz2' := HR2.out.blk.lt
          have hm0 := Blk.mk_ w2 55 #[.int .i64 m.p, .int .i64 m.why, .int .i64 m.k, .int .i64 m.id, .int .i64 m.to, .int .u64 m.at_] _ rfl
          have HM0 := Lib.hid hm0
          clear hm0
          go_wp2_with fail
          refine (kept_t HKEPT.out _).mono ?_
          rintro e w3 ⟨rfl, hb3⟩
          have HM3 := Lib.hid (HM0.out.call hb3)
          have hz3 : w2.heap.size + 1 ≤ w3.heap.size := by have := hb3.size; simpa using this
          have hb3' : Below w2.heap.size w2 w3 := Below.trans (by (focus (repeat' (first | (with_reducible exact Below.refl _ _) | (with_reducible assumption) | (with_reducible refine Below.alloc ?_ ?_ _) | (with_reducible refine below_drewN ?_ _) | (with_reducible refine Below.drew ?_) | (with_reducible refine Below.setCell ?_ ?_ _) | omega | (simp; done) | (simp; omega))))) (hb3.mono (by simp))
          have HR3 := Lib.hid (HR2.out.below hb3')
          have hB3 : Below w.heap.size w w3 := hB2.trans (hb3'.mono (by omega))
          have m0 := (HM3.out.at_ 0).trans rfl
          have m1 := (HM3.out.at_ 1).trans rfl
          have m2 := (HM3.out.at_ 2).trans rfl
          have m3 := (HM3.out.at_ 3).trans rfl
          have m4 := (HM3.out.at_ 4).trans rfl
          have m5 := (HM3.out.at_ 5).trans rfl
          clear hb3
          go_wp2_with fail
          refine (rec_any w.heap.size w.heap.size q x m _ HR3.out hfits.out).mono ?_
          rintro e w4 ⟨A4, c4, rfl, ho4, hb4⟩
          have HM4 := Lib.hid (HM3.out.call hb4)
          have hz4 := hb4.size
          have HR4 := Lib.hid (HR3.out.below hb4)
          have hB4 : Below w.heap.size w w4 := hB3.trans (hb4.mono (by omega))
          have HO4 := Lib.hid ho4
          have hrl := rec_len q.last q.sum m
          have hdl := hdr_le (t := q.last) HKEPT.out HR4.out.ok.last0.1 hnb.2
          have hrec : (recS q.last q.sum m).length ≤ 24 := by omega
          have HCUT4 := Lib.hid ((HX.out _ hB4).cut' (k := x.n) (by omega) hc)
          clear m0 m1 m2 m3 m4 m5 hrl hdl ho4 hb4 hb3'
          go_wp2_with fail
          refine (prefix_any _ _ _ _ _ _ _ _ _ (by have h := HCUT4.out; rw [if_neg HCS.out, HDR.out] at h; exact h) HO4.out.reads (by omega) (by omega) (by omega)).mono ?_
          rintro e w5 ⟨rfl, rfl⟩
          by_cases hpre : recS q.last q.sum m <+: xs.drop q.data.length
          · have HACC : Hid (acc q.last q.sum (xs.drop q.data.length) = some m) := Lib.hid (acc_of_rec HR4.out.ok.last0.1 ⟨HKEPT.out, hnb.1, hnb.2, hpre⟩)
            have HPRE := Lib.hid hpre
            rw [decide_eq_true hpre]
            clear hpre
            have m0 := (HM4.out.at_ 0).trans rfl
            have m1 := (HM4.out.at_ 1).trans rfl
            have m2 := (HM4.out.at_ 2).trans rfl
            have m3 := (HM4.out.at_ 3).trans rfl
            have m4 := (HM4.out.at_ 4).trans rfl
            have m5 := (HM4.out.at_ 5).trans rfl
            by_cases hcnt : q.mv.length < 4096
            · go_wp2_with fail
              refine (app_ok w.heap.size w.heap.size q x m _ HR4.out hfits.out hcnt).mono ?_
              rintro e w6 ⟨x', rfl, hR6, ho6, _⟩
              have hB6 : Below w.heap.size w w6 := hB4.trans (ho6.below (by omega) (fun i hi => (HR4.out.foot i hi).1))
              have HR6 := Lib.hid hR6
              clear hR6 ho6 m0 m1 m2 m3 m4 m5
              go_wp2
              go_roundg (xs.length - (q.add m).data.length)
              case measure =>
                have h1 := HPRE.out.length_le
                have h2 := rec_len q.last q.sum m
                rw [List.length_drop] at h1
                simp only [St.add, List.length_append]
                omega
              case rel => exact ⟨q.add m, x', rfl, rfl, HR6.out, hB6, (by
                obtain ⟨ys, hys⟩ := HPRE.out
                refine ⟨ys, ?_⟩
                simp only [St.add]
                rw [List.append_assoc, hys]
                obtain ⟨zs, hzs⟩ := hpx
                rw [← hzs]
                simp), Lib.hid (by
                rw [HE.out, readS_step HACC.out hcnt, List.drop_drop]
                simp only [St.add, List.length_append])⟩
            · have HFIN : Hid (readS (st0 key) xs = q) := Lib.hid (by rw [HE.out, readS_full hcnt])
              go_wp2_with fail
              refine (app_full w.heap.size w.heap.size q x m _ HR4.out hfits.out hcnt).mono ?_
              rintro e w6 ⟨rfl, hb6⟩
              have hB6 : Below w.heap.size w w6 := hB4.trans (hb6.mono (by omega))
              have HRF := Lib.hid (HR4.out.below hb6)
              have z1 := (HRF.out.blk.at_ 1).trans rfl
              have HNE := Lib.hid HRF.out.n_eq
              clear hb6 m0 m1 m2 m3 m4 m5
              go_wp2
              go_quiet (fail)
              go_wp2
              go_ret2
              exact ReadEnd.mk_ (HRF.out.below (by (focus (repeat' (first | (with_reducible exact Below.refl _ _) | (with_reducible assumption) | (with_reducible refine Below.alloc ?_ ?_ _) | (with_reducible refine below_drewN ?_ _) | (with_reducible refine Below.drew ?_) | (with_reducible refine Below.setCell ?_ ?_ _) | omega | (simp; done) | (simp; omega)))))) HFIN.out HNE.out (by (focus (repeat' (first | (with_reducible exact Below.refl _ _) | (with_reducible assumption) | (with_reducible refine Below.alloc ?_ ?_ _) | (with_reducible refine below_drewN ?_ _) | (with_reducible refine Below.drew ?_) | (with_reducible refine Below.setCell ?_ ?_ _) | omega | (simp; done) | (simp; omega)))))
          · have HACC : Hid (acc q.last q.sum (xs.drop q.data.length) = none) := Lib.hid (by unfold acc; rw [HNX.out]; simp [hpre])
            have HFIN : Hid (readS (st0 key) xs = q) := Lib.hid (by rw [HE.out, readS_stop HACC.out])
            rw [decide_eq_false hpre]
            clear hpre
            have z1 := (HR4.out.blk.at_ 1).trans rfl
            have HNE := Lib.hid HR4.out.n_eq
            go_wp2
            go_quiet (fail)
            go_wp2
            go_ret2
            exact ReadEnd.mk_ (HR4.out.below (by (focus (repeat' (first | (with_reducible exact Below.refl _ _) | (with_reducible assumption) | (with_reducible refine Below.alloc ?_ ?_ _) | (with_reducible refine below_drewN ?_ _) | (with_reducible refine Below.drew ?_) | (with_reducible refine Below.setCell ?_ ?_ _) | omega | (simp; done) | (simp; omega)))))) HFIN.out HNE.out (by (focus (repeat' (first | (with_reducible exact Below.refl _ _) | (with_reducible assumption) | (with_reducible refine Below.alloc ?_ ?_ _) | (with_reducible refine below_drewN ?_ _) | (with_reducible refine Below.drew ?_) | (with_reducible refine Below.setCell ?_ ?_ _) | omega | (simp; done) | (simp; omega)))))
end Go.Proofs.YtpbbemmjodegkaaDoor
