/-
  A nil replay: what its methods hand back.
-/
import Derived.Test.YtpbbemmjodegkaaGreatDoorKnown
import Derived.Test.YtpbbemmjodegkaaGreatDoorKMid
set_option linter.unusedSimpArgs false
set_option linter.unusedVariables false
namespace Go.Proofs.YtpbbemmjodegkaaGreatDoor
open Go.RowKit

def zbd : Array Value := #[Value.slice none 0 0, .int .i64 0, .int .i64 0, .int .i64 0, .int .i64 0, .int .i64 0, .slice none 0 0, .slice none 0 0, .slice none 0 0, .slice none 0 0, .bool false, .bool false, .bool false, .int .i64 0, .int .i64 0, .int .i64 0, .int .i64 0, .int .i64 0, .int .i64 0, .int .i64 0, .slice none 0 0, .slice none 0 0, .slice none 0 0, .slice none 0 0, .bool false, .bool false, .bool false, .int .i64 0, .int .i64 0, .slice none 0 0, .slice none 0 0, .slice none 0 0, .slice none 0 0, .int .i64 0, .int .i64 0, .int .i64 0, .int .i64 0, .int .i64 0]
theorem ret_cell2 {fn : Func} {p q : Tmp} {ty : TypeId} {tmps : Array Value} {w : World} {g t : Nat} {cs : Array Value} {d : TypeDesc} (h : fn.results = #[.cell p ty, .tmp q]) (hp : tmps.getD p undef = .pointer (some ⟨g, 0, none⟩)) (hb : Blk w g t cs)
    (hu : Tryz.prog.underlying ty = some d) (hd : d.isRow = true) (hi : (Tryz.prog.info? ty).map (·.size) = some cs.size) : (results fn tmps).run Tryz.prog w = .ok (.tuple #[.agg cs, tmps.getD q undef]) w := by
  have hp' : tmps[p]?.getD undef = .pointer (some ⟨g, 0, none⟩) := by simpa using hp
  simp [results, h, hp', asAddr, run_loadVar_row w g t ty cs (0, 0) d hb hu (by cases d <;> simp_all) hi]
theorem built_zbd : Tryz.prog.built 59 [] = some zbd := by kernel_rfl
theorem nil_len (w : World) : Calls Tryz.prog 16 #[.pointer none] w fun e w' => e = .returned (.int .i64 0) ∧ w = w' := by
  go_enter Tryz.func16, Tryz.ntmps16
  go_wp2
  (first | go_ret | go_ret2)
  exact ⟨rfl, rfl⟩
theorem nil_key (w : World) : Calls Tryz.prog 17 #[.pointer none] w fun e w' => e = .returned (.int .u32 0) ∧ w = w' := by
  go_enter Tryz.func17, Tryz.ntmps17
  go_wp2
  (first | go_ret | go_ret2)
  exact ⟨rfl, rfl⟩
theorem nil_sum (w : World) : Calls Tryz.prog 18 #[.pointer none] w fun e w' => e = .returned (.int .u32 0) ∧ w = w' := by
  go_enter Tryz.func18, Tryz.ntmps18
  go_wp2
  (first | go_ret | go_ret2)
  exact ⟨rfl, rfl⟩
theorem nil_moves (w : World) : Calls Tryz.prog 19 #[.pointer none] w fun e w' => e = .returned (.slice none 0 0) ∧ w = w' := by
  go_enter Tryz.func19, Tryz.ntmps19
  go_wp2
  (first | go_ret | go_ret2)
  exact ⟨rfl, rfl⟩
theorem nil_bytes (w : World) : Calls Tryz.prog 20 #[.pointer none] w fun e w' => e = .returned (.slice none 0 0) ∧ w = w' := by
  go_enter Tryz.func20, Tryz.ntmps20
  go_wp2
  (first | go_ret | go_ret2)
  exact ⟨rfl, rfl⟩
theorem nil_copy (w : World) : Calls Tryz.prog 21 #[.pointer none] w fun e w' => e = .returned (.pointer none) ∧ w = w' := by
  go_enter Tryz.func21, Tryz.ntmps21
  go_wp2
  (first | go_ret | go_ret2)
  exact ⟨rfl, rfl⟩
theorem nil_cut (n : Int) (w : World) : Calls Tryz.prog 15 #[.pointer none, .int .i64 n] w fun e w' => e = .returned (.tuple #[.pointer none, .int .i64 1]) ∧ w = w' := by
  go_enter Tryz.func15, Tryz.ntmps15
  go_wp2
  (first | go_ret | go_ret2)
  exact ⟨rfl, rfl⟩
theorem one_zbd : ∀ u ∈ zbd.toList, u.oneCell' = true := by decide +kernel
theorem zbd_len : zbd.toList.length = 38 := by kernel_rfl
theorem zbd_size : zbd.size = 38 := by kernel_rfl
set_option maxRecDepth 100000 in
theorem size_board : (Tryz.prog.info? 59).map (·.size) = some 38 := by decide +kernel
set_option maxRecDepth 100000 in
theorem size_outcome : (Tryz.prog.info? 70).map (·.size) = some 2 := by decide +kernel
def zout : Array Value := #[.int .i64 0, .int .i64 0]
theorem built_zout : Tryz.prog.built 70 [] = some zout := by kernel_rfl
theorem zout_len : zout.toList.length = 2 := rfl
theorem zout_size : zout.size = 2 := rfl
theorem one_zout : ∀ u ∈ zout.toList, u.oneCell' = true := by decide +kernel
set_option maxRecDepth 100000 in
set_option maxHeartbeats 1600000 in
theorem nil_append (a0 a1 a2 a3 a4 a5 : Int) (w : World) : Calls Tryz.prog 7 #[.pointer none, .agg #[.int .i64 a0, .int .i64 a1, .int .i64 a2, .int .i64 a3, .int .i64 a4, .int .u64 a5]] w fun e w' => e = .returned (.int .i64 1) ∧ Below w.heap.size w w' := by
  go_enter Tryz.func7, Tryz.ntmps7
  go_wp2
  (first | go_ret | go_ret2)
  exact ⟨rfl, (by (focus (repeat' (first | (with_reducible exact Below.refl _ _) | (with_reducible assumption) | (with_reducible refine Below.alloc ?_ ?_ _) | (with_reducible refine below_drewN ?_ _) | (with_reducible refine Below.drew ?_) | omega | (simp; done) | (simp; omega)))))⟩
set_option maxRecDepth 100000 in
set_option maxHeartbeats 1600000 in
theorem nil_board (c0 c1 c2 c3 c4 c5 : Int) (A0 A1 A2 A3 : Option Addr) (n0 n1 n2 n3 k0 k1 k2 k3 : Nat) (n : Int) (w : World) : Calls Tryz.prog 9 #[.pointer none, .agg #[.int .i64 c0, .int .i64 c1, .int .i64 c2, .int .i64 c3, .int .i64 c4, .int .i64 c5], .agg #[.slice A0 n0 k0, .slice A1 n1 k1, .slice A2 n2 k2, .slice A3 n3 k3], .int .i64 n] w fun e w' => e = .returned (.tuple #[.agg zbd, .int .i64 1]) ∧ Below w.heap.size w w' := by
  obtain ⟨W1, hW1⟩ : ∃ z, w.alloc (.cells #[.int .i64 c0, .int .i64 c1, .int .i64 c2, .int .i64 c3, .int .i64 c4, .int .i64 c5] 23) = z := ⟨_, rfl⟩
  obtain ⟨W2, hW2⟩ : ∃ z, W1.alloc (.cells #[.slice A0 n0 k0, .slice A1 n1 k1, .slice A2 n2 k2, .slice A3 n3 k3] 29) = z := ⟨_, rfl⟩
  obtain ⟨W3, hW3⟩ : ∃ z, W2.alloc (.cells #[Value.slice none 0 0, .int .i64 0, .int .i64 0, .int .i64 0, .int .i64 0, .int .i64 0, .slice none 0 0, .slice none 0 0, .slice none 0 0, .slice none 0 0, .bool false, .bool false, .bool false, .int .i64 0, .int .i64 0, .int .i64 0, .int .i64 0, .int .i64 0, .int .i64 0, .int .i64 0, .slice none 0 0, .slice none 0 0, .slice none 0 0, .slice none 0 0, .bool false, .bool false, .bool false, .int .i64 0, .int .i64 0, .slice none 0 0, .slice none 0 0, .slice none 0 0, .slice none 0 0, .int .i64 0, .int .i64 0, .int .i64 0, .int .i64 0, .int .i64 0] 59) = z := ⟨_, rfl⟩
  obtain ⟨g, hg⟩ : ∃ z, W2.heap.size = z := ⟨_, rfl⟩
  have hk3 : Blk W3 g 59 #[Value.slice none 0 0, .int .i64 0, .int .i64 0, .int .i64 0, .int .i64 0, .int .i64 0, .slice none 0 0, .slice none 0 0, .slice none 0 0, .slice none 0 0, .bool false, .bool false, .bool false, .int .i64 0, .int .i64 0, .int .i64 0, .int .i64 0, .int .i64 0, .int .i64 0, .int .i64 0, .slice none 0 0, .slice none 0 0, .slice none 0 0, .slice none 0 0, .bool false, .bool false, .bool false, .int .i64 0, .int .i64 0, .slice none 0 0, .slice none 0 0, .slice none 0 0, .slice none 0 0, .int .i64 0, .int .i64 0, .int .i64 0, .int .i64 0, .int .i64 0] := by rw [← hW3]; exact Blk.mk_ _ _ _ _ hg
  obtain ⟨W4, hst, hk4, hg4⟩ := hk3.storeAll (ty := 59) zbd.toList (by rw [zbd_len]; rfl) (by rw [size_board, zbd_len]) one_zbd
  rw [Array.toArray_toList] at hst hk4
  have hb3 : Below w.heap.size w W3 := by rw [← hW3, ← hW2, ← hW1]; exact (((Below.refl _ _).alloc (Nat.le_refl _) _).alloc (by simp) _).alloc (by simp; omega) _
  have hgs : w.heap.size ≤ g := by rw [← hg, ← hW2, ← hW1]; simp; omega
  have HB4 : Hid (Below w.heap.size w W4) := Lib.hid (hb3.grown hg4 hb3.size (fun q hq => by injection hq with hq; omega))
  have HST := Lib.hid hst
  have HK4 := Lib.hid hk4
  clear hk3 hst hk4 hg4 hb3 hgs
  go_enter Tryz.func9, Tryz.ntmps9
  go_wp2_with (first
    | (refine wpList_op_by rfl (run_of_build (parts := #[]) (parts' := #[]) rfl rfl built_zbd) ?_; simp only [Act.put, List.setIfInBounds_toArray, List.set_cons_succ, List.set_cons_zero])
    | (refine wpList_store_by HST.out rfl rfl rfl rfl ?_; simp only [Act.put, List.setIfInBounds_toArray, List.set_cons_succ, List.set_cons_zero])
    | fail)
  refine bodyPost_ret (v := .tuple #[.agg zbd, .int .i64 1]) ((ret_cell2 (fn := Tryz.f9) (p := 8) (q := 9) rfl rfl HK4.out Tryz.underlying59 rfl (by rw [size_board, zbd_size])).trans rfl) rfl ?_
  exact ⟨rfl, HB4.out⟩
set_option maxRecDepth 100000 in
set_option maxHeartbeats 1600000 in
theorem nil_play (c0 c1 c2 c3 c4 c5 : Int) (A0 A1 A2 A3 : Option Addr) (n0 n1 n2 n3 k0 k1 k2 k3 : Nat) (w : World) : Calls Tryz.prog 13 #[.pointer none, .agg #[.int .i64 c0, .int .i64 c1, .int .i64 c2, .int .i64 c3, .int .i64 c4, .int .i64 c5], .agg #[.slice A0 n0 k0, .slice A1 n1 k1, .slice A2 n2 k2, .slice A3 n3 k3]] w fun e w' => e = .returned (.tuple #[.agg zout, .int .i64 1]) ∧ Below w.heap.size w w' := by
  obtain ⟨W1, hW1⟩ : ∃ z, w.alloc (.cells #[.int .i64 c0, .int .i64 c1, .int .i64 c2, .int .i64 c3, .int .i64 c4, .int .i64 c5] 23) = z := ⟨_, rfl⟩
  obtain ⟨W2, hW2⟩ : ∃ z, W1.alloc (.cells #[.slice A0 n0 k0, .slice A1 n1 k1, .slice A2 n2 k2, .slice A3 n3 k3] 29) = z := ⟨_, rfl⟩
  obtain ⟨W3, hW3⟩ : ∃ z, W2.alloc (.cells #[.int .i64 0, .int .i64 0] 70) = z := ⟨_, rfl⟩
  obtain ⟨g, hg⟩ : ∃ z, W2.heap.size = z := ⟨_, rfl⟩
  have hk3 : Blk W3 g 70 #[.int .i64 0, .int .i64 0] := by rw [← hW3]; exact Blk.mk_ _ _ _ _ hg
  obtain ⟨W4, hst, hk4, hg4⟩ := hk3.storeAll (ty := 70) zout.toList (by rw [zout_len]; rfl) (by rw [size_outcome, zout_len]) one_zout
  rw [Array.toArray_toList] at hst hk4
  have hb3 : Below w.heap.size w W3 := by rw [← hW3, ← hW2, ← hW1]; exact (((Below.refl _ _).alloc (Nat.le_refl _) _).alloc (by simp) _).alloc (by simp; omega) _
  have hgs : w.heap.size ≤ g := by rw [← hg, ← hW2, ← hW1]; simp; omega
  have HB4 : Hid (Below w.heap.size w W4) := Lib.hid (hb3.grown hg4 hb3.size (fun q hq => by injection hq with hq; omega))
  have HST := Lib.hid hst
  have HK4 := Lib.hid hk4
  clear hk3 hst hk4 hg4 hb3 hgs
  go_enter Tryz.func13, Tryz.ntmps13
  go_wp2_with (first
    | (refine wpList_op_by rfl (run_of_build (parts := #[]) (parts' := #[]) rfl rfl built_zout) ?_; simp only [Act.put, List.setIfInBounds_toArray, List.set_cons_succ, List.set_cons_zero])
    | (refine wpList_store_by HST.out rfl rfl rfl rfl ?_; simp only [Act.put, List.setIfInBounds_toArray, List.set_cons_succ, List.set_cons_zero])
    | fail)
  refine bodyPost_ret (v := .tuple #[.agg zout, .int .i64 1]) ((ret_cell2 (fn := Tryz.f13) (p := 6) (q := 7) rfl rfl HK4.out Tryz.underlying70 rfl (by rw [size_outcome, zout_size])).trans rfl) rfl ?_
  exact ⟨rfl, HB4.out⟩
end Go.Proofs.YtpbbemmjodegkaaGreatDoor
