/-
  Texts: Kt.
-/
import Derived.Test.YtpbbemmjodegkaaDoorXk5
import Derived.Test.YtpbbemmjodegkaaDoorXk3
import Derived.Lib.Strings
import Derived.Lib.Slices
import Derived.Lib.Walk
import Derived.Lib.TrimByte
import Derived.Laws.Strings3
import Derived.Laws.IdiomStrings
import Derived.RegionTactic
import Derived.Deep.RegionWith
set_option linter.unusedSimpArgs false
set_option linter.unusedVariables false
namespace Go.Proofs.YtpbbemmjodegkaaDoor
open Go.RowKit

set_option maxHeartbeats 2000000 in
set_option maxRecDepth 1000000 in
theorem str_trimLeftByte (s : ByteArray) (c : UInt8) (w : World) :
    Calls Tryd.prog 63 #[.string s, .int .u8 c.toNat] w fun e w' => e = .returned (.string ⟨(Lib.trimLeftB s.data.toList c).toArray⟩) ∧ w' = w := by
  go_enter Tryd.func63, Tryd.ntmps63
  go_wp2
  go_loop [0] (fun v => ∃ k : Nat, k ≤ s.size ∧ v = .string ⟨(s.data.toList.drop k).toArray⟩ ∧ ∀ (j : Nat) b, j < k → s.data.toList[j]? = some b → b = c) (fun v => Lib.strSize v)
  case atStart => exact ⟨0, Nat.zero_le _, by simp, fun j b hj => absurd hj (Nat.not_lt_zero _)⟩
  case round =>
    obtain ⟨k, hk, rfl, hc⟩ := hrel
    have hts : (⟨(s.data.toList.drop k).toArray⟩ : ByteArray).size = s.size - k := by rw [Lib.size_mk, List.length_drop, ← Lib.size_eq]
    have hb0 : ∀ h, s.data.toList[k]? = some ((⟨(s.data.toList.drop k).toArray⟩ : ByteArray)[0]'h) := by
      intro h
      rw [← Lib.getElem_mk (s.data.toList.drop k) 0 h, List.getElem?_drop]
      rfl
    have hx1 : (⟨(s.data.toList.drop k).toArray⟩ : ByteArray).extract 1 (s.size - k) = ⟨(s.data.toList.drop (k + 1)).toArray⟩ := by
      rw [Lib.extract_mk, List.drop_drop, List.take_of_length_le (by simp; omega)]
    have hK : Lib.Kept (∀ (j : Nat) b, j < k → s.data.toList[j]? = some b → b = c) := hc
    clear hc
    generalize ht : (⟨(s.data.toList.drop k).toArray⟩ : ByteArray) = t at hts hb0 hx1 ⊢
    have hK3 : Lib.Kept ((⟨(s.data.toList.drop k).toArray⟩ : ByteArray) = t) := ht
    clear ht
    have hkl : Lib.Kept (k ≤ s.data.toList.length) := by rw [← Lib.size_eq]; exact hk
    by_cases h0 : 0 < t.size
    · have hbk := hb0 h0
      clear hb0
      by_cases heq : t[0]'h0 = c
      · have heq' : ((t[0]'h0).toNat : Int) = (c.toNat : Int) := by rw [heq]
        have hK2 : Lib.Kept (s.data.toList[k]? = some (t[0]'h0)) := hbk
        clear hbk
        go_wp2
        refine ⟨⟨k + 1, by omega, rfl, fun j b hj hb => ?_⟩, ?_⟩
        · by_cases e : j = k
          · subst e
            have h2 : s.data.toList[j]? = some (t[0]'h0) := hK2
            have h3 : s.data.toList[j]? = some b := by simpa using hb
            rw [h2] at h3
            rw [← Option.some.inj h3, heq]
          · exact hK j b (by omega) (by simpa using hb)
        · rw [Lib.strSize_string, Lib.strSize_string, Lib.size_mk, List.length_drop, ← Lib.size_eq]
          omega
      · have hne' : ¬ ((t[0]'h0).toNat : Int) = (c.toNat : Int) := by
          intro e
          exact heq (UInt8.toNat_inj.1 (by exact_mod_cast e))
        have hbeq : (((t[0]'h0).toNat : Int) == (c.toNat : Int)) = false := by simpa using hne'
        have hK2 : Lib.Kept (s.data.toList[k]? = some (t[0]'h0)) := hbk
        clear hbk
        go_wp2
        go_ret
        refine ⟨?_, rfl⟩
        have ht' : (⟨(s.data.toList.drop k).toArray⟩ : ByteArray) = t := hK3
        show Ending.returned (Value.string t) = _
        rw [Lib.trimLeftB_drop s.data.toList c k hkl hK (fun b hb => by
          have h2 : s.data.toList[k]? = some (t[0]'h0) := hK2
          rw [h2] at hb
          rw [← Option.some.inj hb]
          exact heq), ht']
    · clear hb0
      go_wp2
      go_ret
      refine ⟨?_, rfl⟩
      have ht' : (⟨(s.data.toList.drop k).toArray⟩ : ByteArray) = t := hK3
      show Ending.returned (Value.string t) = _
      rw [Lib.trimLeftB_drop s.data.toList c k hkl hK (fun b hb => by
        have : s.data.toList.length ≤ k := by rw [← Lib.size_eq]; omega
        simp [List.getElem?_eq_none this] at hb), ht']
set_option maxHeartbeats 2000000 in
set_option maxRecDepth 1000000 in
theorem str_trimRightByte (s : ByteArray) (c : UInt8) (w : World) (hs : s.size ≤ 9223372036854775807) :
    Calls Tryd.prog 64 #[.string s, .int .u8 c.toNat] w fun e w' => e = .returned (.string ⟨(Lib.trimRightB s.data.toList c).toArray⟩) ∧ w' = w := by
  go_enter Tryd.func64, Tryd.ntmps64
  go_wp2
  go_loop [0] (fun v => ∃ k : Nat, k ≤ s.size ∧ v = .string ⟨(s.data.toList.take k).toArray⟩ ∧ ∀ (j : Nat) b, k ≤ j → s.data.toList[j]? = some b → b = c) (fun v => Lib.strSize v)
  case atStart =>
    refine ⟨s.size, Nat.le_refl _, ?_, fun j b hj hb => ?_⟩
    · rw [Lib.size_eq, List.take_length, Lib.mk_data]
    · have : s.data.toList.length ≤ j := by rw [← Lib.size_eq]; exact hj
      simp [List.getElem?_eq_none this] at hb
  case round =>
    obtain ⟨k, hk, rfl, hc⟩ := hrel
    have hkl : k ≤ s.data.toList.length := by rw [← Lib.size_eq]; exact hk
    have hts : (⟨(s.data.toList.take k).toArray⟩ : ByteArray).size = k := by rw [Lib.size_mk, List.length_take]; omega
    have hb0 : ∀ h, s.data.toList[k - 1]? = some ((⟨(s.data.toList.take k).toArray⟩ : ByteArray)[k - 1]'h) := by
      intro h
      rw [← Lib.getElem_mk (s.data.toList.take k) (k - 1) h, List.getElem?_take]
      rw [hts] at h
      rw [if_pos h]
    have hx1 : (⟨(s.data.toList.take k).toArray⟩ : ByteArray).extract 0 (k - 1) = ⟨(s.data.toList.take (k - 1)).toArray⟩ := by
      rw [Lib.extract_mk, List.drop_zero, List.take_take]
      congr 3
      omega
    have hK : Lib.Kept (∀ (j : Nat) b, k ≤ j → s.data.toList[j]? = some b → b = c) := hc
    clear hc
    have hkl' : Lib.Kept (k ≤ s.data.toList.length) := hkl
    clear hkl
    generalize ht : (⟨(s.data.toList.take k).toArray⟩ : ByteArray) = t at hts hb0 hx1 ⊢
    have hK3 : Lib.Kept ((⟨(s.data.toList.take k).toArray⟩ : ByteArray) = t) := ht
    clear ht
    by_cases h0 : 0 < k
    · have h1 : k - 1 < t.size := by omega
      have hwr : ((k : Int) - 1 + 9223372036854775808) % 18446744073709551616 - 9223372036854775808 = ((k - 1 : Nat) : Int) := by omega
      have hbk := hb0 h1
      clear hb0
      by_cases heq : t[k - 1]'h1 = c
      · have heq' : ((t[k - 1]'h1).toNat : Int) = (c.toNat : Int) := by rw [heq]
        have hK2 : Lib.Kept (s.data.toList[k - 1]? = some (t[k - 1]'h1)) := hbk
        clear hbk
        go_wp2
        refine ⟨⟨k - 1, by omega, rfl, fun j b hj hb => ?_⟩, ?_⟩
        · by_cases e : j = k - 1
          · subst e
            have h2 : s.data.toList[k - 1]? = some (t[k - 1]'h1) := hK2
            have h3 : s.data.toList[k - 1]? = some b := by simpa using hb
            rw [h2] at h3
            rw [← Option.some.inj h3, heq]
          · exact hK j b (by omega) (by simpa using hb)
        · have hkl : k ≤ s.data.toList.length := hkl'
          rw [Lib.strSize_string, Lib.strSize_string, Lib.size_mk, List.length_take]
          omega
      · have hne' : ¬ ((t[k - 1]'h1).toNat : Int) = (c.toNat : Int) := by
          intro e
          exact heq (UInt8.toNat_inj.1 (by exact_mod_cast e))
        have hbeq : (((t[k - 1]'h1).toNat : Int) == (c.toNat : Int)) = false := by simpa using hne'
        have hK2 : Lib.Kept (s.data.toList[k - 1]? = some (t[k - 1]'h1)) := hbk
        clear hbk
        go_wp2
        go_ret
        refine ⟨?_, rfl⟩
        have ht' : (⟨(s.data.toList.take k).toArray⟩ : ByteArray) = t := hK3
        show Ending.returned (Value.string t) = _
        rw [Lib.trimRightB_take s.data.toList c k hkl' hK (fun b _ hb => by
          have h2 : s.data.toList[k - 1]? = some (t[k - 1]'h1) := hK2
          rw [h2] at hb
          rw [← Option.some.inj hb]
          exact heq), ht']
    · clear hb0
      go_wp2
      go_ret
      refine ⟨?_, rfl⟩
      have ht' : (⟨(s.data.toList.take k).toArray⟩ : ByteArray) = t := hK3
      show Ending.returned (Value.string t) = _
      rw [Lib.trimRightB_take s.data.toList c k hkl' hK (fun b hk0 _ => absurd hk0 h0), ht']
def trimS (s : ByteArray) : ByteArray := ⟨(Lib.trimB s.data.toList 32).toArray⟩
set_option maxHeartbeats 2000000 in
set_option maxRecDepth 1000000 in
theorem trim_any (s : ByteArray) (w : World) (hs : s.size ≤ 9223372036854775807) : Calls Tryd.prog 52 #[.string s, .string ⟨#[32]⟩] w fun e w' => e = .returned (.string (trimS s)) ∧ Below w.heap.size w w' := by
  unfold trimS
  have HR : Hid (∀ W, Calls Tryd.prog 64 #[.string s, .int .u8 32] W fun e w' => e = .returned (.string ⟨(Lib.trimRightB s.data.toList 32).toArray⟩) ∧ w' = W) := Lib.hid (fun W => str_trimRightByte s 32 W hs)
  have HL : Hid (∀ W, Calls Tryd.prog 63 #[.string ⟨(Lib.trimRightB s.data.toList 32).toArray⟩, .int .u8 32] W fun e w' => e = .returned (.string ⟨(Lib.trimB s.data.toList 32).toArray⟩) ∧ w' = W) := Lib.hid (fun W => str_trimLeftByte ⟨(Lib.trimRightB s.data.toList 32).toArray⟩ 32 W)
  obtain ⟨r1, h1⟩ : ∃ r, (⟨(Lib.trimRightB s.data.toList 32).toArray⟩ : ByteArray) = r := ⟨_, rfl⟩
  rw [h1] at HR HL
  clear h1
  by_cases he : s = ⟨#[]⟩
  · subst he
    go_enter Tryd.func52, Tryd.ntmps52
    go_wp2
    go_ret
    exact ⟨rfl, Below.refl _ _⟩
  · have h1 : ¬ s.toList = [] := fun h => he (by
      have h2 : s.data.toList = [] := by rw [← Lib.toList_data]; exact h
      rw [← Lib.mk_data s, h2])
    have h2 : s.toList.isEmpty = false := by simpa using h1
    have h3 : (((⟨#[32]⟩ : ByteArray)[0]'(by decide)).toNat : Int) = 32 := rfl
    clear he h1
    go_enter Tryd.func52, Tryd.ntmps52
    go_wp2_with fail
    clear h2
    refine wp_region_later (B := w.heap.size) (w0 := w) (Below.refl _ _) (by kernel_rfl) (by kernel_rfl) ?_
    repeat (go_big_quiet_step ((first
      | (go_at_call 64; with_reducible exact Calls.later_same' (HR.out _))
      | (go_at_call 63; with_reducible exact Calls.later_same' (HL.out _)))))
    refine wpQuiet_nil ?_
    intro _ hw'
    obtain ⟨s, hw2⟩ := hw'
    subst hw2
    obtain ⟨w2, hb2⟩ := s
    go_wp2
    go_ret
    exact ⟨rfl, hb2⟩
def nmB (l : List UInt8) : Bool := l.all fun b => decide (32 ≤ b.toNat) && decide (b.toNat ≤ 126)
def namedS (s : ByteArray) : Bool := wnR s.size 1 32 && ((trimS s).toList == s.toList) && nmB s.data.toList
def numsOf (s : ByteArray) : List Int := s.data.toList.map fun b => (b.toNat : Int)
theorem numsOf_len (s : ByteArray) : (numsOf s).length = s.size := by
  rw [numsOf, List.length_map, Array.length_toList]
  rfl
theorem numsOf_bytes (s : ByteArray) : IsBytes (numsOf s) := by
  intro x hx
  obtain ⟨b, _, rfl⟩ := List.mem_map.1 hx
  have := b.toNat_lt
  omega
theorem grownCap_le (w : World) (n : Nat) (e : TypeId) : n ≤ grownCap w n 0 e := by
  exact grownCap_ge w n 0 e
theorem conv_bytes (W : World) (s : ByteArray) : ∃ cap w', (convert 9 35 (.string s)).run Tryd.prog W = .ok (.slice (some ⟨W.heap.size, 0, none⟩) s.size cap) w' ∧ Below W.heap.size W w' ∧ BReads w' (some ⟨W.heap.size, 0, none⟩) s.size (numsOf s) ∧ s.size ≤ cap := by
  have h := run_bytes_of_string (P := Tryd.prog) W 9 35 5 s Tryd.underlying9 Tryd.underlying35 Tryd.underlying5
  refine ⟨_, _, h, ((Below.refl _ _).drew).alloc (Nat.le_refl _) _, ⟨⟨by simp [bys, numsOf_len], fun hn => ⟨_, rfl, by rw [World.size_alloc]; exact Nat.lt_succ_self _, fun j u hj => ?_⟩⟩, numsOf_bytes s⟩, grownCap_le _ _ _⟩
  have hjl : j < s.data.size := by
    have := (List.getElem?_eq_some_iff.1 hj).1
    simpa [bys, numsOf] using this
  have e1 : (⟨W.heap.size, 0, none⟩ : Addr).add j = ⟨W.heap.size, j, none⟩ := by unfold Addr.add; split <;> simp_all
  rw [e1]
  have h2 := World.cell?_alloc_mark W.drew (bytesRow s (grownCap W s.size 0 5)) 5 ((bytesRow s (grownCap W s.size 0 5)).size, (bytesRow s (grownCap W s.size 0 5)).size + 1) j
  refine Eq.trans h2 ?_
  rw [bytesRow_at s _ j hjl]
  rw [bys, numsOf, List.map_map, List.getElem?_map, List.getElem?_eq_getElem (by simpa using hjl)] at hj
  simpa using hj
theorem nmB_snoc {l : List UInt8} {k : Nat} {b : UInt8} (h : l[k]? = some b) : nmB (l.take (k + 1)) = (nmB (l.take k) && (decide (32 ≤ b.toNat) && decide (b.toNat ≤ 126))) := by
  have hk : k < l.length := (List.getElem?_eq_some_iff.1 h).1
  rw [List.take_succ_eq_append_getElem hk]
  rw [List.getElem?_eq_getElem hk] at h
  rw [Option.some.inj h]
  simp [nmB, List.all_append]
theorem nmB_bad {l : List UInt8} {k : Nat} {b : UInt8} (h : l[k]? = some b) (hb : (decide (32 ≤ b.toNat) && decide (b.toNat ≤ 126)) = false) : nmB l = false := by
  rw [Bool.eq_false_iff]
  intro h2
  unfold nmB at h2
  rw [List.all_eq_true] at h2
  have := h2 b (List.mem_of_getElem? h)
  rw [hb] at this
  cases this
set_option maxRecDepth 100000 in
set_option maxHeartbeats 2000000 in
theorem named_any (s : ByteArray) (w : World) (hs : s.size ≤ 9223372036854775807) : Calls Tryd.prog 36 #[.string s] w (BE (namedS s) w) := by
  have HT : Hid (∀ W, Calls Tryd.prog 52 #[.string s, .string ⟨#[32]⟩] W fun e w' => e = .returned (.string (trimS s)) ∧ Below W.heap.size W w') := Lib.hid (fun W => trim_any s W hs)
  unfold namedS
  have HW : Hid (∀ W, Calls Tryd.prog 37 #[.int .i64 s.size, .int .i64 1, .int .i64 32] W fun e w' => e = .returned (.bool (wnR s.size 1 32)) ∧ W = w') := Lib.hid (fun W => cwithin _ _ _ W)
  obtain ⟨d0, h0⟩ : ∃ d, wnR s.size 1 32 = d := ⟨_, rfl⟩
  obtain ⟨t, ht⟩ : ∃ t, trimS s = t := ⟨_, rfl⟩
  rw [h0] at HW ⊢
  rw [ht] at HT ⊢
  have HD0 := Lib.hid h0
  clear h0 ht
  cases d0 with
  | false =>
    go_enter Tryd.func36, Tryd.ntmps36
    go_wp2_with (first | (go_at_call 37; refine (HW.out _).mono ?_; rintro e w1 ⟨rfl, rfl⟩) | fail)
    go_ret
    exact ⟨rfl, Below.refl _ _⟩
  | true =>
    go_enter Tryd.func36, Tryd.ntmps36
    go_wp2_with (first | (go_at_call 37; refine (HW.out _).mono ?_; rintro e w1 ⟨rfl, rfl⟩) | fail)
    refine (HT.out _).mono ?_
    rintro e w1 ⟨rfl, hb1⟩
    have HB1 := Lib.hid hb1
    clear hb1
    obtain ⟨d1, h1⟩ : ∃ d, (t.toList == s.toList) = d := ⟨_, rfl⟩
    have H1 := Lib.hid h1
    cases d1 with
    | false =>
      go_wp2_with fail
      go_ret
      refine ⟨?_, HB1.out⟩
      show Ending.returned (.bool false) = _
      rw [H1.out]
      rfl
    | true =>
      obtain ⟨cap, w2, hcv, hb2, hr2, hcap⟩ := conv_bytes w1 s
      have HB2 := Lib.hid (below_call HB1.out hb2 HB1.out.size)
      have HR := Lib.hid hr2
      have HN : Hid (s.data.toList.length = s.size) := Lib.hid (by rw [Array.length_toList]; rfl)
      obtain ⟨g, hg⟩ : ∃ g, w1.heap.size = g := ⟨_, rfl⟩
      rw [hg] at hcv HR
      clear hb2 hr2 hg HB1 HD0
      obtain ⟨n, hn⟩ : ∃ n, s.size = n := ⟨_, rfl⟩
      rw [hn] at hcv hcap hs HN HR
      clear hn
      go_wp2_with fail
      clear hcv h1
      go_loopw [18] (fun i W => ∃ k : Nat, k ≤ n ∧ i = .int .i64 k ∧ Hid (nmB (s.data.toList.take k) = true) ∧ W = w2) (fun i _ => n - (intOf i).toNat)
      case atStart => exact ⟨0, Nat.zero_le _, rfl, Lib.hid rfl, rfl⟩
      case round =>
        obtain ⟨k, hk, rfl, HE, rfl⟩ := hrel
        have HE9 : ∀ d, nmB s.data.toList = d → nmB s.data.toList = d := fun _ h => h
        by_cases hlt : k < n
        · have hlt' : (k : Int) < n := by omega
          obtain ⟨ad, e9, c0, h0, h255⟩ := HR.out.at_ hlt
          injection e9 with e9
          subst e9
          have c1 : wr.cell? ⟨g, k, none⟩ = some (.int .u8 (nth (numsOf s) k)) := by
            have e1 : (⟨g, 0, none⟩ : Addr).add k = ⟨g, k, none⟩ := by unfold Addr.add; split <;> simp_all
            rw [← e1]
            exact c0
          have hb : s.data.toList[k]? = some (s.data.toList[k]'(by rw [HN.out]; exact hlt)) := List.getElem?_eq_getElem _
          have hx : nth (numsOf s) k = ((s.data.toList[k]'(by rw [HN.out]; exact hlt)).toNat : Int) := by
            unfold nth numsOf
            rw [List.getD, List.getElem?_map, hb]
            rfl
          obtain ⟨b, hbb⟩ : ∃ b, s.data.toList[k]'(by rw [HN.out]; exact hlt) = b := ⟨_, rfl⟩
          rw [hbb] at hb hx
          rw [hx] at c1
          have HB := Lib.hid hb
          obtain ⟨x, hxx⟩ : ∃ x : Int, (b.toNat : Int) = x := ⟨_, rfl⟩
          rw [hxx] at c1
          have HX := Lib.hid hxx
          clear hb hx hbb hxx c0 h0 h255
          by_cases h32 : x < 32
          · have HF : Hid (nmB s.data.toList = false) := Lib.hid (nmB_bad HB.out (by
              have := HX.out
              simp
              omega))
            go_wp2
            go_ret
            refine ⟨?_, HB2.out⟩
            show Ending.returned (.bool false) = _
            rw [HF.out]
            simp
          · by_cases h126 : 126 < x
            · have HF : Hid (nmB s.data.toList = false) := Lib.hid (nmB_bad HB.out (by
                have := HX.out
                simp
                omega))
              go_wp2
              go_ret
              refine ⟨?_, HB2.out⟩
              show Ending.returned (.bool false) = _
              rw [HF.out]
              simp
            · have HE2 : Hid (nmB (s.data.toList.take (k + 1)) = true) := Lib.hid (by
                rw [nmB_snoc HB.out, HE.out]
                have := HX.out
                simp
                omega)
              go_wp2
              go_roundw
              case rel => exact ⟨k + 1, hlt, by go_num, HE2, by first | rfl | trivial⟩
              case measure => simp [intOf]; omega
        · obtain rfl : k = n := by omega
          have HT9 : Hid (nmB s.data.toList = true) := Lib.hid (by
            have := HE.out
            rwa [List.take_of_length_le (by rw [HN.out]; exact Nat.le_refl _)] at this)
          go_wp2
          go_ret
          refine ⟨?_, HB2.out⟩
          show Ending.returned (.bool true) = _
          rw [H1.out, HT9.out]
          rfl
end Go.Proofs.YtpbbemmjodegkaaDoor
