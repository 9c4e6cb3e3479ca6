/-
  Texts: Rvc, Num.
-/
import Derived.Test.YtagpphelgghbpaaGreatMk28
import Derived.Test.YtagpphelgghbpaaGreatMk12
import Derived.Test.YtagpphelgghbpaaGreatMk1
set_option linter.unusedSimpArgs false
set_option linter.unusedVariables false
namespace Go.Proofs.YtagpphelgghbpaaGreat
open Go.RowKit

theorem seOk_iff (s:Se):seOk s = true ↔ (([s.p0,s.p1,s.p2,s.p3].all fun x => inR x 0 99) = true) ∧ (¬ s.life < 0 ∧ ¬ 9999 < s.life ∧ ¬ s.mul < 0 ∧ ¬ 7 < s.mul ∧ ¬ s.act < 0 ∧ ¬ 255 < s.act):=by
 unfold seOk
 simp only [List.all_cons,List.all_nil,Bool.and_true,Bool.and_eq_true,inR_iff]
 omega
theorem obOk_iff (o:Ob):obOk o = true ↔ (¬ o.id < 1 ∧ ¬ 500 < o.id ∧ ¬ o.card < -1 ∧ ¬ 399 < o.card ∧ ¬ o.own < 0 ∧ ¬ 1 < o.own) ∧ (¬ (0 ≤ o.card ∧ ¬ o.pow = 0) ∧ ¬ (0 ≤ o.card ∧ ¬ o.tou = 0)) ∧ ((0 ≤ o.pow ∧ o.pow ≤ 99) ∧ (0 ≤ o.tou ∧ o.tou ≤ 99) ∧ (0 ≤ o.dam ∧ o.dam ≤ 99) ∧ (0 ≤ o.cnt ∧ o.cnt ≤ 99) ∧ (0 ≤ o.pp ∧ o.pp ≤ 99) ∧ (0 ≤ o.pt ∧ o.pt ≤ 99)):=by
 unfold obOk
 simp only [Bool.and_eq_true,Bool.or_eq_true,inR_iff,decide_eq_true_eq]
 omega
set_option maxRecDepth 100000 in
theorem size_mana:(Tryz.prog.info? 24).map (·.size) = some 4:=by decide +kernel
theorem small14_any (x:Int) (w:World):Calls Tryz.prog 100 #[.int .i64 x] w fun e w' => e = .returned (.bool (decide (0 ≤ x ∧ x ≤ 99))) ∧ w = w':=by
 by_cases h:0 ≤ x
 case neg =>
  have h1:decide (0 ≤ x) = false:=decide_eq_false h
  have HV:Hid (decide (0 ≤ x ∧ x ≤ 99) = false):=Lib.hid (decide_eq_false (fun h2 => h h2.1))
  clear h
  go_enter Tryz.func100,Tryz.ntmps100
  go_wp2_with fail
  go_ret
  exact ⟨by rw [HV.out];rfl,rfl⟩
 have h1:decide (0 ≤ x) = true:=decide_eq_true h
 by_cases h2:x ≤ 99
 case neg =>
  have h3:decide (x ≤ 99) = false:=decide_eq_false h2
  have HV:Hid (decide (0 ≤ x ∧ x ≤ 99) = false):=Lib.hid (decide_eq_false (fun h4 => h2 h4.2))
  clear h h2
  go_enter Tryz.func100,Tryz.ntmps100
  go_wp2_with fail
  go_ret
  exact ⟨by rw [HV.out];rfl,rfl⟩
 have h3:decide (x ≤ 99) = true:=decide_eq_true h2
 have HV:Hid (decide (0 ≤ x ∧ x ≤ 99) = true):=Lib.hid (decide_eq_true ⟨h,h2⟩)
 clear h h2
 go_enter Tryz.func100,Tryz.ntmps100
 go_wp2_with fail
 go_ret
 exact ⟨by rw [HV.out];rfl,rfl⟩
set_option maxRecDepth 100000 in
set_option maxHeartbeats 6400000 in
theorem rseat_any (s:Se) (m:SeM) (w:World):Calls Tryz.prog 32 #[.agg (s.cells m).toArray] w fun e w' => e = .returned (.bool (seOk s)) ∧ Below w.heap.size w w':=by
 obtain ⟨cs,hcs⟩:∃ cs,(s.cells m).toArray = cs:=⟨_,rfl⟩
 obtain ⟨w1,hw1⟩:∃ x,w.alloc (.cells cs 27) = x:=⟨_,rfl⟩
 have hbox:Blk w1 w.heap.size 27 cs:=by rw [← hw1];exact Blk.mk_ w _ _ _ rfl
 have HB0:Hid (Below w.heap.size w w1):=Lib.hid (by rw [← hw1];exact (Below.refl _ _).alloc (Nat.le_refl _) _)
 have HLM:Hid ((Instr.loadAt 24 (.pointer (some ⟨w.heap.size,1,none⟩))).run Tryz.prog w1 = .ok (.agg #[.int .i64 s.p0,.int .i64 s.p1,.int .i64 s.p2,.int .i64 s.p3]) w1):=Lib.hid (hbox.mid (o:=1) [.int .i64 s.p0,.int .i64 s.p1,.int .i64 s.p2,.int .i64 s.p3] _ (fun j v hj => by
  rw [← hcs]
  match j,hj with
  | 0,hj => exact hj
  | 1,hj => exact hj
  | 2,hj => exact hj
  | 3,hj => exact hj) Tryz.underlying24 rfl size_mana)
 have o0:w1.cell? ⟨w.heap.size,0,none⟩ = some (.int .i64 s.life):=(hbox.at_ 0).trans (by rw [← hcs];rfl)
 have o12:w1.cell? ⟨w.heap.size,12,none⟩ = some (.int .i64 s.mul):=(hbox.at_ 12).trans (by rw [← hcs];rfl)
 have o13:w1.cell? ⟨w.heap.size,13,none⟩ = some (.int .i64 s.act):=(hbox.at_ 13).trans (by rw [← hcs];rfl)
 rw [hcs]
 obtain ⟨l,hl⟩:∃ l,[s.p0,s.p1,s.p2,s.p3] = l:=⟨_,rfl⟩
 have HLL:Hid ([s.p0,s.p1,s.p2,s.p3] = l):=Lib.hid hl
 have HLN:Hid (l.length = 4):=Lib.hid (by rw [← hl];rfl)
 obtain ⟨PV,hPV⟩:∃ v,(Value.agg #[.int .i64 s.p0,.int .i64 s.p1,.int .i64 s.p2,.int .i64 s.p3]) = v:=⟨_,rfl⟩
 rw [hPV] at HLM
 have HI:Hid (∀ k:Nat,k < 4 → ∀ w,(Instr.index 24 PV (.int .i64 k)).run Tryz.prog w = .ok (.int .i64 (ith l k)) w):=Lib.hid (fun k hk w => by rw [← hl,← hPV];exact mana_idx s.p0 s.p1 s.p2 s.p3 hk w)
 clear hl hPV hcs hbox
 go_enter Tryz.func32,Tryz.ntmps32
 go_wp2_with (first
  | (refine wpList_load_by HLM.out rfl rfl rfl ?_;simp only [Act.put,List.setIfInBounds_toArray,List.set_cons_succ,List.set_cons_zero])
  | fail)
 go_loopw [7] (fun i W => ∃ k:Nat,k ≤ 4 ∧ i = .int .i64 k ∧ W = w1 ∧ Hid (∀ j x,j < k → l[j]? = some x → inR x 0 99 = true)) (fun i _ => 4 - (intOf i).toNat)
 case atStart => exact ⟨0,Nat.zero_le _,rfl,rfl,Lib.hid (fun q x h => absurd h (by omega))⟩
 case round =>
  obtain ⟨k,hk,rfl,rfl,HE⟩:=hrel
  by_cases hlt:k < 4
  ·have hlt':(k:Int) < 4:=by omega
   have hix:=HI.out k hlt
   have hg:=ith_get (xs:=l) (k:=k) (by rw [HLN.out];exact hlt)
   generalize ith l k = x at *
   have HG:=Lib.hid hg
   clear hg
   by_cases c1:x < 0
   case pos =>
    have e1:decide (x < 0) = true:=decide_eq_true c1
    have HA:Hid (seOk s = false):=Lib.hid (by cases hv:seOk s with | false => rfl | true => (have h:=((seOk_iff s).1 hv).1;rw [HLL.out,none_of HG.out (by cases hv2:inR x 0 99 with | false => rfl | true => (have h2:=(inR_iff _ _ _).1 hv2;omega))] at h;exact absurd h (by decide)))
    go_wp2_with fail
    go_ret
    exact ⟨by rw [HA.out];rfl,HB0.out⟩
   have d1:decide (x < 0) = false:=decide_eq_false c1
   have C1:=Lib.hid c1
   clear c1
   by_cases c2:99 < x
   case pos =>
    have e2:decide (99 < x) = true:=decide_eq_true c2
    have HA:Hid (seOk s = false):=Lib.hid (by cases hv:seOk s with | false => rfl | true => (have h:=((seOk_iff s).1 hv).1;rw [HLL.out,none_of HG.out (by cases hv2:inR x 0 99 with | false => rfl | true => (have h2:=(inR_iff _ _ _).1 hv2;omega))] at h;exact absurd h (by decide)))
    go_wp2_with fail
    go_ret
    exact ⟨by rw [HA.out];rfl,HB0.out⟩
   have d2:decide (99 < x) = false:=decide_eq_false c2
   have C2:=Lib.hid c2
   clear c2
   have HEE:Hid (∀ j x,j < k + 1 → l[j]? = some x → inR x 0 99 = true):=Lib.hid (fun j y hq hg => by
    rcases Nat.lt_or_ge j k with h | h
    ·exact HE.out j y h hg
    ·obtain rfl:j = k:=by omega
     rw [HG.out] at hg
     rw [← Option.some.inj hg]
     exact (inR_iff _ _ _).2 ⟨C1.out,C2.out⟩)
   go_wp2_with fail
   go_roundw
   case rel => exact ⟨k + 1,by omega,by go_num,trivial,HEE⟩
   case measure => simp [intOf];omega
  ·obtain rfl:k = 4:=by omega
   have HALL:Hid (([s.p0,s.p1,s.p2,s.p3].all fun x => inR x 0 99) = true):=Lib.hid (by rw [HLL.out];exact all_of HLN.out HE.out)
   by_cases c1:s.life < 0
   case pos =>
    have e1:decide (0 ≤ s.life) = false:=decide_eq_false (by omega)
    have HA:Hid (seOk s = false):=Lib.hid (by cases hv:seOk s with | false => rfl | true => (have h:=((seOk_iff s).1 hv).2;omega))
    clear HE
    go_wp2_with fail
    go_ret
    exact ⟨by rw [HA.out];rfl,HB0.out⟩
   have d1:decide (0 ≤ s.life) = true:=decide_eq_true (by omega)
   have C1:=Lib.hid c1
   clear c1
   by_cases c2:9999 < s.life
   case pos =>
    have e2:decide (s.life ≤ 9999) = false:=decide_eq_false (by omega)
    have HA:Hid (seOk s = false):=Lib.hid (by cases hv:seOk s with | false => rfl | true => (have h:=((seOk_iff s).1 hv).2;omega))
    clear HE
    go_wp2_with fail
    go_ret
    exact ⟨by rw [HA.out];rfl,HB0.out⟩
   have d2:decide (s.life ≤ 9999) = true:=decide_eq_true (by omega)
   have C2:=Lib.hid c2
   clear c2
   by_cases c3:s.mul < 0
   case pos =>
    have e3:decide (0 ≤ s.mul) = false:=decide_eq_false (by omega)
    have HA:Hid (seOk s = false):=Lib.hid (by cases hv:seOk s with | false => rfl | true => (have h:=((seOk_iff s).1 hv).2;omega))
    clear HE
    go_wp2_with fail
    go_ret
    exact ⟨by rw [HA.out];rfl,HB0.out⟩
   have d3:decide (0 ≤ s.mul) = true:=decide_eq_true (by omega)
   have C3:=Lib.hid c3
   clear c3
   by_cases c4:7 < s.mul
   case pos =>
    have e4:decide (s.mul ≤ 7) = false:=decide_eq_false (by omega)
    have HA:Hid (seOk s = false):=Lib.hid (by cases hv:seOk s with | false => rfl | true => (have h:=((seOk_iff s).1 hv).2;omega))
    clear HE
    go_wp2_with fail
    go_ret
    exact ⟨by rw [HA.out];rfl,HB0.out⟩
   have d4:decide (s.mul ≤ 7) = true:=decide_eq_true (by omega)
   have C4:=Lib.hid c4
   clear c4
   by_cases c5:s.act < 0
   case pos =>
    have e5:decide (0 ≤ s.act) = false:=decide_eq_false (by omega)
    have HA:Hid (seOk s = false):=Lib.hid (by cases hv:seOk s with | false => rfl | true => (have h:=((seOk_iff s).1 hv).2;omega))
    clear HE
    go_wp2_with fail
    go_ret
    exact ⟨by rw [HA.out];rfl,HB0.out⟩
   have d5:decide (0 ≤ s.act) = true:=decide_eq_true (by omega)
   have C5:=Lib.hid c5
   clear c5
   by_cases c6:255 < s.act
   case pos =>
    have e6:decide (s.act ≤ 255) = false:=decide_eq_false (by omega)
    have HA:Hid (seOk s = false):=Lib.hid (by cases hv:seOk s with | false => rfl | true => (have h:=((seOk_iff s).1 hv).2;omega))
    clear HE
    go_wp2_with fail
    go_ret
    exact ⟨by rw [HA.out];rfl,HB0.out⟩
   have d6:decide (s.act ≤ 255) = true:=decide_eq_true (by omega)
   have C6:=Lib.hid c6
   clear c6
   have HOK:Hid (seOk s = true):=Lib.hid ((seOk_iff s).2 ⟨HALL.out,by have:=C1.out;have:=C2.out;have:=C3.out;have:=C4.out;have:=C5.out;have:=C6.out;omega⟩)
   clear HE
   go_wp2_with fail
   go_ret
   exact ⟨by rw [HOK.out];rfl,HB0.out⟩
set_option maxRecDepth 100000 in
set_option maxHeartbeats 6400000 in
theorem robj_any (o:Ob) (w:World):Calls Tryz.prog 67 #[.agg o.cells.toArray] w fun e w' => e = .returned (.bool (obOk o)) ∧ Below w.heap.size w w':=by
 obtain ⟨cs,hcs⟩:∃ cs,o.cells.toArray = cs:=⟨_,rfl⟩
 obtain ⟨w1,hw1⟩:∃ x,w.alloc (.cells cs 46) = x:=⟨_,rfl⟩
 have hbox:Blk w1 w.heap.size 46 cs:=by rw [← hw1];exact Blk.mk_ w _ _ _ rfl
 have HB0:Hid (Below w.heap.size w w1):=Lib.hid (by rw [← hw1];exact (Below.refl _ _).alloc (Nat.le_refl _) _)
 have o0:w1.cell? ⟨w.heap.size,0,none⟩ = some (.int .i64 o.id):=(hbox.at_ 0).trans (by rw [← hcs];rfl)
 have o1:w1.cell? ⟨w.heap.size,1,none⟩ = some (.int .i64 o.card):=(hbox.at_ 1).trans (by rw [← hcs];rfl)
 have o2:w1.cell? ⟨w.heap.size,2,none⟩ = some (.int .i64 o.own):=(hbox.at_ 2).trans (by rw [← hcs];rfl)
 have o3:w1.cell? ⟨w.heap.size,3,none⟩ = some (.int .i64 o.pow):=(hbox.at_ 3).trans (by rw [← hcs];rfl)
 have o4:w1.cell? ⟨w.heap.size,4,none⟩ = some (.int .i64 o.tou):=(hbox.at_ 4).trans (by rw [← hcs];rfl)
 have o5:w1.cell? ⟨w.heap.size,5,none⟩ = some (.int .i64 o.dam):=(hbox.at_ 5).trans (by rw [← hcs];rfl)
 have o6:w1.cell? ⟨w.heap.size,6,none⟩ = some (.int .i64 o.cnt):=(hbox.at_ 6).trans (by rw [← hcs];rfl)
 have o7:w1.cell? ⟨w.heap.size,7,none⟩ = some (.int .i64 o.pp):=(hbox.at_ 7).trans (by rw [← hcs];rfl)
 have o8:w1.cell? ⟨w.heap.size,8,none⟩ = some (.int .i64 o.pt):=(hbox.at_ 8).trans (by rw [← hcs];rfl)
 rw [hcs]
 clear hcs hbox
 go_enter Tryz.func67,Tryz.ntmps67
 by_cases c1:o.id < 1
 case pos =>
  have e1:decide (o.id < 1) = true:=decide_eq_true c1
  have HA:Hid (obOk o = false):=Lib.hid (by cases hv:obOk o with | false => rfl | true => (have h:=(obOk_iff o).1 hv;exact False.elim (absurd c1 (h.1.1))))
  go_wp2_with fail
  go_ret
  exact ⟨by rw [HA.out];rfl,HB0.out⟩
 have d1:decide (o.id < 1) = false:=decide_eq_false c1
 have C1:=Lib.hid c1
 clear c1
 by_cases c2:500 < o.id
 case pos =>
  have e2:decide (500 < o.id) = true:=decide_eq_true c2
  have HA:Hid (obOk o = false):=Lib.hid (by cases hv:obOk o with | false => rfl | true => (have h:=(obOk_iff o).1 hv;exact False.elim (absurd c2 (h.1.2.1))))
  go_wp2_with fail
  go_ret
  exact ⟨by rw [HA.out];rfl,HB0.out⟩
 have d2:decide (500 < o.id) = false:=decide_eq_false c2
 have C2:=Lib.hid c2
 clear c2
 by_cases c3:o.card < -1
 case pos =>
  have e3:decide (o.card < -1) = true:=decide_eq_true c3
  have HA:Hid (obOk o = false):=Lib.hid (by cases hv:obOk o with | false => rfl | true => (have h:=(obOk_iff o).1 hv;exact False.elim (absurd c3 (h.1.2.2.1))))
  go_wp2_with fail
  go_ret
  exact ⟨by rw [HA.out];rfl,HB0.out⟩
 have d3:decide (o.card < -1) = false:=decide_eq_false c3
 have C3:=Lib.hid c3
 clear c3
 by_cases c4:399 < o.card
 case pos =>
  have e4:decide (399 < o.card) = true:=decide_eq_true c4
  have HA:Hid (obOk o = false):=Lib.hid (by cases hv:obOk o with | false => rfl | true => (have h:=(obOk_iff o).1 hv;exact False.elim (absurd c4 (h.1.2.2.2.1))))
  go_wp2_with fail
  go_ret
  exact ⟨by rw [HA.out];rfl,HB0.out⟩
 have d4:decide (399 < o.card) = false:=decide_eq_false c4
 have C4:=Lib.hid c4
 clear c4
 by_cases c5:o.own < 0
 case pos =>
  have e5:decide (o.own < 0) = true:=decide_eq_true c5
  have HA:Hid (obOk o = false):=Lib.hid (by cases hv:obOk o with | false => rfl | true => (have h:=(obOk_iff o).1 hv;exact False.elim (absurd c5 (h.1.2.2.2.2.1))))
  go_wp2_with fail
  go_ret
  exact ⟨by rw [HA.out];rfl,HB0.out⟩
 have d5:decide (o.own < 0) = false:=decide_eq_false c5
 have C5:=Lib.hid c5
 clear c5
 by_cases c6:1 < o.own
 case pos =>
  have e6:decide (1 < o.own) = true:=decide_eq_true c6
  have HA:Hid (obOk o = false):=Lib.hid (by cases hv:obOk o with | false => rfl | true => (have h:=(obOk_iff o).1 hv;exact False.elim (absurd c6 (h.1.2.2.2.2.2))))
  go_wp2_with fail
  go_ret
  exact ⟨by rw [HA.out];rfl,HB0.out⟩
 have d6:decide (1 < o.own) = false:=decide_eq_false c6
 have C6:=Lib.hid c6
 clear c6
 by_cases hc:0 ≤ o.card
 ·have hc1:decide (0 ≤ o.card) = true:=decide_eq_true hc
  by_cases c7:¬ o.pow = 0
  case pos =>
   have e7:(o.pow != 0) = true:=by simp [c7]
   have HA:Hid (obOk o = false):=Lib.hid (by cases hv:obOk o with | false => rfl | true => (have h:=(obOk_iff o).1 hv;exact False.elim (h.2.1.1 ⟨hc,c7⟩)))
   clear hc
   go_wp2_with fail
   go_ret
   exact ⟨by rw [HA.out];rfl,HB0.out⟩
  have d7:(o.pow != 0) = false:=by simp [Decidable.not_not.1 c7]
  have C7:=Lib.hid c7
  clear c7
  by_cases c8:¬ o.tou = 0
  case pos =>
   have e8:(o.tou != 0) = true:=by simp [c8]
   have HA:Hid (obOk o = false):=Lib.hid (by cases hv:obOk o with | false => rfl | true => (have h:=(obOk_iff o).1 hv;exact False.elim (h.2.1.2 ⟨hc,c8⟩)))
   clear hc
   go_wp2_with fail
   go_ret
   exact ⟨by rw [HA.out];rfl,HB0.out⟩
  have d8:(o.tou != 0) = false:=by simp [Decidable.not_not.1 c8]
  have C8:=Lib.hid c8
  clear c8
  have HCR:Hid (¬ (0 ≤ o.card ∧ ¬ o.pow = 0) ∧ ¬ (0 ≤ o.card ∧ ¬ o.tou = 0)):=Lib.hid ⟨fun h => h.2 (Decidable.byContradiction C7.out),fun h => h.2 (Decidable.byContradiction C8.out)⟩
  clear hc
  by_cases c11:0 ≤ o.pow ∧ o.pow ≤ 99
  case neg =>
   have D11:Hid (decide (0 ≤ o.pow ∧ o.pow ≤ 99) = false):=Lib.hid (decide_eq_false c11)
   have HA:Hid (obOk o = false):=Lib.hid (by cases hv:obOk o with | false => rfl | true => (have h:=((obOk_iff o).1 hv).2.2;exact absurd (h.1) c11))
   clear c11
   go_wp2_with (first
    | (go_at_call 100;refine (small14_any _ _).mono ?_;(first | rw [D11.out]);rintro e w2 ⟨rfl,rfl⟩)
    | fail)
   go_ret
   exact ⟨by rw [HA.out];rfl,HB0.out⟩
  have D11:Hid (decide (0 ≤ o.pow ∧ o.pow ≤ 99) = true):=Lib.hid (decide_eq_true c11)
  have C11:=Lib.hid c11
  clear c11
  by_cases c12:0 ≤ o.tou ∧ o.tou ≤ 99
  case neg =>
   have D12:Hid (decide (0 ≤ o.tou ∧ o.tou ≤ 99) = false):=Lib.hid (decide_eq_false c12)
   have HA:Hid (obOk o = false):=Lib.hid (by cases hv:obOk o with | false => rfl | true => (have h:=((obOk_iff o).1 hv).2.2;exact absurd (h.2.1) c12))
   clear c12
   go_wp2_with (first
    | (go_at_call 100;refine (small14_any _ _).mono ?_;(first | rw [D11.out] | rw [D12.out]);rintro e w2 ⟨rfl,rfl⟩)
    | fail)
   go_ret
   exact ⟨by rw [HA.out];rfl,HB0.out⟩
  have D12:Hid (decide (0 ≤ o.tou ∧ o.tou ≤ 99) = true):=Lib.hid (decide_eq_true c12)
  have C12:=Lib.hid c12
  clear c12
  by_cases c13:0 ≤ o.dam ∧ o.dam ≤ 99
  case neg =>
   have D13:Hid (decide (0 ≤ o.dam ∧ o.dam ≤ 99) = false):=Lib.hid (decide_eq_false c13)
   have HA:Hid (obOk o = false):=Lib.hid (by cases hv:obOk o with | false => rfl | true => (have h:=((obOk_iff o).1 hv).2.2;exact absurd (h.2.2.1) c13))
   clear c13
   go_wp2_with (first
    | (go_at_call 100;refine (small14_any _ _).mono ?_;(first | rw [D11.out] | rw [D12.out] | rw [D13.out]);rintro e w2 ⟨rfl,rfl⟩)
    | fail)
   go_ret
   exact ⟨by rw [HA.out];rfl,HB0.out⟩
  have D13:Hid (decide (0 ≤ o.dam ∧ o.dam ≤ 99) = true):=Lib.hid (decide_eq_true c13)
  have C13:=Lib.hid c13
  clear c13
  by_cases c14:0 ≤ o.cnt ∧ o.cnt ≤ 99
  case neg =>
   have D14:Hid (decide (0 ≤ o.cnt ∧ o.cnt ≤ 99) = false):=Lib.hid (decide_eq_false c14)
   have HA:Hid (obOk o = false):=Lib.hid (by cases hv:obOk o with | false => rfl | true => (have h:=((obOk_iff o).1 hv).2.2;exact absurd (h.2.2.2.1) c14))
   clear c14
   go_wp2_with (first
    | (go_at_call 100;refine (small14_any _ _).mono ?_;(first | rw [D11.out] | rw [D12.out] | rw [D13.out] | rw [D14.out]);rintro e w2 ⟨rfl,rfl⟩)
    | fail)
   go_ret
   exact ⟨by rw [HA.out];rfl,HB0.out⟩
  have D14:Hid (decide (0 ≤ o.cnt ∧ o.cnt ≤ 99) = true):=Lib.hid (decide_eq_true c14)
  have C14:=Lib.hid c14
  clear c14
  by_cases c15:0 ≤ o.pp ∧ o.pp ≤ 99
  case neg =>
   have D15:Hid (decide (0 ≤ o.pp ∧ o.pp ≤ 99) = false):=Lib.hid (decide_eq_false c15)
   have HA:Hid (obOk o = false):=Lib.hid (by cases hv:obOk o with | false => rfl | true => (have h:=((obOk_iff o).1 hv).2.2;exact absurd (h.2.2.2.2.1) c15))
   clear c15
   go_wp2_with (first
    | (go_at_call 100;refine (small14_any _ _).mono ?_;(first | rw [D11.out] | rw [D12.out] | rw [D13.out] | rw [D14.out] | rw [D15.out]);rintro e w2 ⟨rfl,rfl⟩)
    | fail)
   go_ret
   exact ⟨by rw [HA.out];rfl,HB0.out⟩
  have D15:Hid (decide (0 ≤ o.pp ∧ o.pp ≤ 99) = true):=Lib.hid (decide_eq_true c15)
  have C15:=Lib.hid c15
  clear c15
  by_cases c16:0 ≤ o.pt ∧ o.pt ≤ 99
  case neg =>
   have D16:Hid (decide (0 ≤ o.pt ∧ o.pt ≤ 99) = false):=Lib.hid (decide_eq_false c16)
   have HA:Hid (obOk o = false):=Lib.hid (by cases hv:obOk o with | false => rfl | true => (have h:=((obOk_iff o).1 hv).2.2;exact absurd (h.2.2.2.2.2) c16))
   clear c16
   go_wp2_with (first
    | (go_at_call 100;refine (small14_any _ _).mono ?_;(first | rw [D11.out] | rw [D12.out] | rw [D13.out] | rw [D14.out] | rw [D15.out] | rw [D16.out]);rintro e w2 ⟨rfl,rfl⟩)
    | fail)
   go_ret
   exact ⟨by rw [HA.out];rfl,HB0.out⟩
  have D16:Hid (decide (0 ≤ o.pt ∧ o.pt ≤ 99) = true):=Lib.hid (decide_eq_true c16)
  have C16:=Lib.hid c16
  clear c16
  have HA:Hid (obOk o = true):=Lib.hid ((obOk_iff o).2 ⟨by have:=C1.out;have:=C2.out;have:=C3.out;have:=C4.out;have:=C5.out;have:=C6.out;omega,HCR.out,C11.out,C12.out,C13.out,C14.out,C15.out,C16.out⟩)
  go_wp2_with (first
   | (go_at_call 100;refine (small14_any _ _).mono ?_;(first | rw [D11.out] | rw [D12.out] | rw [D13.out] | rw [D14.out] | rw [D15.out] | rw [D16.out]);rintro e w2 ⟨rfl,rfl⟩)
   | fail)
  go_ret
  exact ⟨by rw [HA.out];rfl,HB0.out⟩
 ·have hc1:decide (0 ≤ o.card) = false:=decide_eq_false hc
  have HCR:Hid (¬ (0 ≤ o.card ∧ ¬ o.pow = 0) ∧ ¬ (0 ≤ o.card ∧ ¬ o.tou = 0)):=Lib.hid ⟨fun h => hc h.1,fun h => hc h.1⟩
  clear hc
  by_cases c11:0 ≤ o.pow ∧ o.pow ≤ 99
  case neg =>
   have D11:Hid (decide (0 ≤ o.pow ∧ o.pow ≤ 99) = false):=Lib.hid (decide_eq_false c11)
   have HA:Hid (obOk o = false):=Lib.hid (by cases hv:obOk o with | false => rfl | true => (have h:=((obOk_iff o).1 hv).2.2;exact absurd (h.1) c11))
   clear c11
   go_wp2_with (first
    | (go_at_call 100;refine (small14_any _ _).mono ?_;(first | rw [D11.out]);rintro e w2 ⟨rfl,rfl⟩)
    | fail)
   go_ret
   exact ⟨by rw [HA.out];rfl,HB0.out⟩
  have D11:Hid (decide (0 ≤ o.pow ∧ o.pow ≤ 99) = true):=Lib.hid (decide_eq_true c11)
  have C11:=Lib.hid c11
  clear c11
  by_cases c12:0 ≤ o.tou ∧ o.tou ≤ 99
  case neg =>
   have D12:Hid (decide (0 ≤ o.tou ∧ o.tou ≤ 99) = false):=Lib.hid (decide_eq_false c12)
   have HA:Hid (obOk o = false):=Lib.hid (by cases hv:obOk o with | false => rfl | true => (have h:=((obOk_iff o).1 hv).2.2;exact absurd (h.2.1) c12))
   clear c12
   go_wp2_with (first
    | (go_at_call 100;refine (small14_any _ _).mono ?_;(first | rw [D11.out] | rw [D12.out]);rintro e w2 ⟨rfl,rfl⟩)
    | fail)
   go_ret
   exact ⟨by rw [HA.out];rfl,HB0.out⟩
  have D12:Hid (decide (0 ≤ o.tou ∧ o.tou ≤ 99) = true):=Lib.hid (decide_eq_true c12)
  have C12:=Lib.hid c12
  clear c12
  by_cases c13:0 ≤ o.dam ∧ o.dam ≤ 99
  case neg =>
   have D13:Hid (decide (0 ≤ o.dam ∧ o.dam ≤ 99) = false):=Lib.hid (decide_eq_false c13)
   have HA:Hid (obOk o = false):=Lib.hid (by cases hv:obOk o with | false => rfl | true => (have h:=((obOk_iff o).1 hv).2.2;exact absurd (h.2.2.1) c13))
   clear c13
   go_wp2_with (first
    | (go_at_call 100;refine (small14_any _ _).mono ?_;(first | rw [D11.out] | rw [D12.out] | rw [D13.out]);rintro e w2 ⟨rfl,rfl⟩)
    | fail)
   go_ret
   exact ⟨by rw [HA.out];rfl,HB0.out⟩
  have D13:Hid (decide (0 ≤ o.dam ∧ o.dam ≤ 99) = true):=Lib.hid (decide_eq_true c13)
  have C13:=Lib.hid c13
  clear c13
  by_cases c14:0 ≤ o.cnt ∧ o.cnt ≤ 99
  case neg =>
   have D14:Hid (decide (0 ≤ o.cnt ∧ o.cnt ≤ 99) = false):=Lib.hid (decide_eq_false c14)
   have HA:Hid (obOk o = false):=Lib.hid (by cases hv:obOk o with | false => rfl | true => (have h:=((obOk_iff o).1 hv).2.2;exact absurd (h.2.2.2.1) c14))
   clear c14
   go_wp2_with (first
    | (go_at_call 100;refine (small14_any _ _).mono ?_;(first | rw [D11.out] | rw [D12.out] | rw [D13.out] | rw [D14.out]);rintro e w2 ⟨rfl,rfl⟩)
    | fail)
   go_ret
   exact ⟨by rw [HA.out];rfl,HB0.out⟩
  have D14:Hid (decide (0 ≤ o.cnt ∧ o.cnt ≤ 99) = true):=Lib.hid (decide_eq_true c14)
  have C14:=Lib.hid c14
  clear c14
  by_cases c15:0 ≤ o.pp ∧ o.pp ≤ 99
  case neg =>
   have D15:Hid (decide (0 ≤ o.pp ∧ o.pp ≤ 99) = false):=Lib.hid (decide_eq_false c15)
   have HA:Hid (obOk o = false):=Lib.hid (by cases hv:obOk o with | false => rfl | true => (have h:=((obOk_iff o).1 hv).2.2;exact absurd (h.2.2.2.2.1) c15))
   clear c15
   go_wp2_with (first
    | (go_at_call 100;refine (small14_any _ _).mono ?_;(first | rw [D11.out] | rw [D12.out] | rw [D13.out] | rw [D14.out] | rw [D15.out]);rintro e w2 ⟨rfl,rfl⟩)
    | fail)
   go_ret
   exact ⟨by rw [HA.out];rfl,HB0.out⟩
  have D15:Hid (decide (0 ≤ o.pp ∧ o.pp ≤ 99) = true):=Lib.hid (decide_eq_true c15)
  have C15:=Lib.hid c15
  clear c15
  by_cases c16:0 ≤ o.pt ∧ o.pt ≤ 99
  case neg =>
   have D16:Hid (decide (0 ≤ o.pt ∧ o.pt ≤ 99) = false):=Lib.hid (decide_eq_false c16)
   have HA:Hid (obOk o = false):=Lib.hid (by cases hv:obOk o with | false => rfl | true => (have h:=((obOk_iff o).1 hv).2.2;exact absurd (h.2.2.2.2.2) c16))
   clear c16
   go_wp2_with (first
    | (go_at_call 100;refine (small14_any _ _).mono ?_;(first | rw [D11.out] | rw [D12.out] | rw [D13.out] | rw [D14.out] | rw [D15.out] | rw [D16.out]);rintro e w2 ⟨rfl,rfl⟩)
    | fail)
   go_ret
   exact ⟨by rw [HA.out];rfl,HB0.out⟩
  have D16:Hid (decide (0 ≤ o.pt ∧ o.pt ≤ 99) = true):=Lib.hid (decide_eq_true c16)
  have C16:=Lib.hid c16
  clear c16
  have HA:Hid (obOk o = true):=Lib.hid ((obOk_iff o).2 ⟨by have:=C1.out;have:=C2.out;have:=C3.out;have:=C4.out;have:=C5.out;have:=C6.out;omega,HCR.out,C11.out,C12.out,C13.out,C14.out,C15.out,C16.out⟩)
  go_wp2_with (first
   | (go_at_call 100;refine (small14_any _ _).mono ?_;(first | rw [D11.out] | rw [D12.out] | rw [D13.out] | rw [D14.out] | rw [D15.out] | rw [D16.out]);rintro e w2 ⟨rfl,rfl⟩)
   | fail)
  go_ret
  exact ⟨by rw [HA.out];rfl,HB0.out⟩

/-! ### Numbers in groups of seven bits -/
def numF:Nat → Nat → List Int
 | 0,n => [(n:Int)]
 | f + 1,n => if n < 128 then [(n:Int)] else ((n % 128 + 128:Nat):Int) :: numF f (n / 128)
def numS (n:Nat):List Int:=numF n n
theorem numF_enough:∀ (f g n:Nat),n ≤ f → n ≤ g → numF f n = numF g n:=by
 intro f
 induction f with
 | zero =>
  intro g n h _
  obtain rfl:n = 0:=by omega
  cases g <;> simp [numF]
 | succ f ih =>
  intro g n h hg
  cases g with
  | zero =>
   obtain rfl:n = 0:=by omega
   simp [numF]
  | succ g =>
   simp only [numF]
   split
   ·rfl
   ·rw [ih g (n / 128) (by omega) (by omega)]
theorem numS_lt {n:Nat} (h:n < 128):numS n = [(n:Int)]:=by
 unfold numS
 cases n with
 | zero => rfl
 | succ n => simp only [numF,if_pos h]
theorem numS_ge {n:Nat} (h:128 ≤ n):numS n = ((n % 128 + 128:Nat):Int) :: numS (n / 128):=by
 unfold numS
 obtain ⟨k,rfl⟩:∃ k,n = k + 1:=⟨n - 1,by omega⟩
 rw [numF,if_neg (by omega),numF_enough k ((k + 1) / 128) ((k + 1) / 128) (by omega) (Nat.le_refl _)]
theorem numS_pos (n:Nat):1 ≤ (numS n).length:=by
 rcases Nat.lt_or_ge n 128 with h | h
 ·rw [numS_lt h];simp
 ·rw [numS_ge h];simp
theorem numS_len:∀ (k n:Nat),n < 128 ^ (k + 1) → (numS n).length ≤ k + 1:=by
 intro k
 induction k with
 | zero =>
  intro n h
  rw [numS_lt (by omega)]
  simp
 | succ k ih =>
  intro n h
  rcases Nat.lt_or_ge n 128 with h0 | h0
  ·rw [numS_lt h0];simp
  ·rw [numS_ge h0]
   have:=ih (n / 128) (by rw [Nat.div_lt_iff_lt_mul (by omega),← Nat.pow_succ];exact h)
   simp only [List.length_cons]
   omega
theorem numS_len10 {n:Nat} (h:n < 2 ^ 64):(numS n).length ≤ 10:=numS_len 9 n (Nat.lt_trans h (by decide))

def getL:Nat → Nat → Nat → List Int → Nat × Nat
 | 0,_,_,_ => (0,0)
 | _ + 1,_,_,[] => (0,0)
 | f + 1,i,n,x :: xs => if (i = 9 ∧ 1 < x) ∨ (0 < i ∧ x = 0) then (0,0) else if x < 128 then (n + x.toNat * 128 ^ i,i + 1) else getL f (i + 1) (n + (x.toNat % 128) * 128 ^ i) xs
def getS (xs:List Int):Nat × Nat:=getL 10 0 0 xs
theorem getL_num (ys:List Int):∀ (m i n:Nat),i ≤ 9 → n + m * 128 ^ i < 2 ^ 64 → (0 < i → 0 < m) → getL (10 - i) i n (numS m ++ ys) = (n + m * 128 ^ i,i + (numS m).length):=by
 intro m
 induction m using Nat.strongRecOn with
 | ind m ih =>
  intro i n hi hb hp
  obtain ⟨f,hf⟩:∃ f,10 - i = f + 1:=⟨9 - i,by omega⟩
  rw [hf]
  rcases Nat.lt_or_ge m 128 with h | h
  ·rw [numS_lt h]
   simp only [List.cons_append,List.nil_append,getL]
   rw [if_neg,if_pos (by omega)]
   ·simp
   ·rintro (⟨rfl,h1⟩ | ⟨h1,h2⟩)
    ·have:m * 128 ^ 9 < 2 ^ 64:=by omega
     have h2:(2:Nat) ^ 64 = 2 * 128 ^ 9:=by decide
     rw [h2] at this
     have:=Nat.lt_of_mul_lt_mul_right this
     omega
    ·have:=hp h1
     omega
  ·rw [numS_ge h]
   have hi9:i ≠ 9:=by
    rintro rfl
    have:m * 128 ^ 9 < 2 ^ 64:=by omega
    have h2:(2:Nat) ^ 64 = 2 * 128 ^ 9:=by decide
    rw [h2] at this
    have:=Nat.lt_of_mul_lt_mul_right this
    omega
   have hsplit:m * 128 ^ i = (m % 128) * 128 ^ i + (m / 128) * 128 ^ (i + 1):=by
    rw [Nat.pow_succ,Nat.mul_comm (128 ^ i) 128,← Nat.mul_assoc,← Nat.add_mul]
    congr 1
    omega
   simp only [List.cons_append,getL]
   rw [if_neg,if_neg (by omega)]
   ·have hx:((((m % 128 + 128:Nat):Int)).toNat % 128) = m % 128:=by omega
    rw [hx]
    have h1:=ih (m / 128) (by omega) (i + 1) (n + m % 128 * 128 ^ i) (by omega) (by rw [Nat.add_assoc,← hsplit];exact hb) (fun _ => by omega)
    rw [show 10 - (i + 1) = f by omega] at h1
    rw [h1,Nat.add_assoc,← hsplit]
    simp only [List.length_cons,Prod.mk.injEq,true_and]
    omega
   ·rintro (⟨h1,_⟩ | ⟨_,h2⟩)
    ·exact hi9 h1
    ·omega
theorem getS_num {n:Nat} (h:n < 2 ^ 64) (ys:List Int):getS (numS n ++ ys) = (n,(numS n).length):=by
 have:=getL_num ys n 0 0 (by omega) (by simpa using h) (fun h => absurd h (by omega))
 unfold getS
 simpa using this


def zig (n:Int):Nat:=if n < 0 then (-2 * n - 1).toNat else (2 * n).toNat
theorem zig_lt {n:Int} (h:wfI n):zig n < 2 ^ 64:=by
 unfold wfI at h
 unfold zig
 split <;> omega
theorem zig_inj {a b:Int} (h:zig a = zig b):a = b:=by
 unfold zig at h
 split at h <;> split at h <;> omega
def vi (n:Int):List Int:=numS (zig n)
def vis (l:List Int):List Int:=l.flatMap vi
theorem vis_app (l m:List Int):vis (l ++ m) = vis l ++ vis m:=by simp [vis]
theorem vi_len {n:Int} (h:wfI n):(vi n).length ≤ 10:=numS_len10 (zig_lt h)
theorem vis_len:∀ {l:List Int},(∀ x ∈ l,wfI x) → (vis l).length ≤ 10 * l.length
 | [],_ => by simp [vis]
 | x :: l,h => by
  have h1:=vi_len (h x (List.mem_cons_self ..))
  have h2:=vis_len (l:=l) fun y hy => h y (List.mem_cons_of_mem _ hy)
  show (vi x ++ vis l).length ≤ _
  rw [List.length_append,List.length_cons]
  omega
theorem vis_inj:∀ {l m:List Int},(∀ x ∈ l,wfI x) → (∀ x ∈ m,wfI x) → vis l = vis m → l = m
 | [],[],_,_,_ => rfl
 | [],y :: m,_,_,h => by
  have h0:[] = numS (zig y) ++ vis m:=h
  have h1:=congrArg List.length h0
  have h2:=numS_pos (zig y)
  rw [List.length_append,List.length_nil] at h1
  omega
 | x :: l,[],_,_,h => by
  have h0:numS (zig x) ++ vis l = []:=h
  have h1:=congrArg List.length h0
  have h2:=numS_pos (zig x)
  rw [List.length_append,List.length_nil] at h1
  omega
 | x :: l,y :: m,hl,hm,h => by
  have h0:numS (zig x) ++ vis l = numS (zig y) ++ vis m:=h
  have e1:=getS_num (zig_lt (hl x (List.mem_cons_self ..))) (vis l)
  have e2:=getS_num (zig_lt (hm y (List.mem_cons_self ..))) (vis m)
  rw [h0,e2] at e1
  injection e1 with e1 e3
  have hxy:=zig_inj e1
  subst hxy
  rw [vis_inj (fun z hz => hl z (List.mem_cons_of_mem _ hz)) (fun z hz => hm z (List.mem_cons_of_mem _ hz)) (List.append_cancel_left h0)]
/-! ### The numbers of a view -/
def tf (b:Bool):Int:=if b then 1 else 0
def obN (o:Ob):List Int:=[o.id,o.card,o.own,o.pow,o.tou,o.dam,o.cnt,o.pp,o.pt,tf o.tap,tf o.sick,tf o.doom]
def obsN (l:List Ob):List Int:=(l.length:Int) :: l.flatMap obN
def tgN (t:Tg):List Int:=[t.id,t.pl]
def itN (x:It):List Int:=[x.pl,x.id,x.card,x.trg,(x.tgs.length:Int)] ++ x.tgs.flatMap tgN
def itsN (l:List It):List Int:=(l.length:Int) :: l.flatMap itN
def bkN (x:Bk):List Int:=[x.b,x.a]
def vsN (v:Vs):List Int:=[v.life,v.p0,v.p1,v.p2,v.p3,v.lib,v.hand] ++ (obsN v.fld ++ (obsN v.grv ++ [tf v.emp,tf v.ply,tf v.kpt,v.mul,v.act]))
def vwN (who:Int) (p:Pu) (hd:List Ob):List Int:=who :: (vsN p.v0 ++ (vsN p.v1 ++ (obsN hd ++ (itsN p.stk ++ (itsN p.que ++ ((p.att.length:Int) :: (p.att ++ ((p.blk.length:Int) :: (p.blk.flatMap bkN ++ [p.turn,p.actv,p.phs,p.hold,p.pas,-1,0,0,0])))))))))
end Go.Proofs.YtagpphelgghbpaaGreat
