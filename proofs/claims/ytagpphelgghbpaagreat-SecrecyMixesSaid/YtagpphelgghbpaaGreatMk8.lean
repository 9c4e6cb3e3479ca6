/-
  Texts: Con.
-/
import Derived.Test.YtagpphelgghbpaaGreatMk7
set_option linter.unusedSimpArgs false
set_option linter.unusedVariables false
namespace Go.Proofs.YtagpphelgghbpaaGreat
open Go.RowKit

set_option maxHeartbeats 800000 in
theorem idxI_any (A:Option Addr) (len c:Nat) (l:List Int) (x:Int) (w:World) (hx:Reads w 1 A len (ics l)) (hlen:len ≤ 9223372036854775807) :
  Calls Tryz.prog 111 #[.slice A len c,.int .i64 x] w fun e w' => ∃ i:Int,e = .returned (.int .i64 i) ∧ decide (0 ≤ i) = decide (x ∈ l) ∧ Below w.heap.size w w':=by
 have HX:=Lib.hid hx
 have HL:=Lib.hid (ilen hx)
 clear hx
 go_enter Tryz.func111,Tryz.ntmps111
 go_wp2
 go_loopw [8] (fun i W => ∃ k:Nat,k ≤ len ∧ i = .int .i64 k ∧ Hid (∀ j y,j < k → l[j]? = some y → y ≠ x) ∧ Below w.heap.size w W) (fun i _ => len - (intOf i).toNat)
 case atStart => exact ⟨0,Nat.zero_le _,rfl,Lib.hid (fun q y h => absurd h (by omega)),Below.refl _ _⟩
 case round =>
  obtain ⟨k,hk,rfl,HE,hB⟩:=hrel
  by_cases hlt:k < len
  ·obtain ⟨ad,rfl,-,c0⟩:=int_at (HX.out.below hB) hlt
   have hlt':(k:Int) < len:=by omega
   have HG:=Lib.hid (ith_get (xs:=l) (k:=k) (by rw [HL.out];exact hlt))
   generalize ith l k = y at *
   by_cases hy:x = y
   ·have hyb:(x == y) = true:=by rw [beq_iff_eq];exact hy
    have HA:Hid (decide (x ∈ l) = true):=Lib.hid (decide_eq_true (by rw [hy];exact List.mem_of_getElem? HG.out))
    clear hy
    go_wp2
    go_ret
    exact ⟨k,rfl,by rw [HA.out];simp,hB⟩
   ·have hyb:(x == y) = false:=by rw [beq_eq_false_iff_ne];exact hy
    have HEE:Hid (∀ j y,j < k + 1 → l[j]? = some y → y ≠ x):=Lib.hid (fun j z hq hg => by
     rcases Nat.lt_or_ge j k with h | h
     ·exact HE.out j z h hg
     ·obtain rfl:j = k:=by omega
      rw [HG.out] at hg
      rw [← Option.some.inj hg]
      exact fun e => hy e.symm)
    clear hy
    go_wp2
    go_roundw
    case rel => exact ⟨k + 1,hlt,by go_num,HEE,hB⟩
    case measure => simp [intOf];omega
  ·obtain rfl:k = len:=by omega
   have HA:Hid (decide (x ∈ l) = false):=Lib.hid (decide_eq_false (fun h => by
    obtain ⟨q,hq,he⟩:=List.getElem_of_mem h
    exact HE.out q x (by rw [HL.out] at hq;exact hq) (by rw [List.getElem?_eq_getElem hq,he]) rfl))
   go_wp2
   go_ret
   exact ⟨-1,rfl,by rw [HA.out];rfl,hB⟩
theorem con_any (A:Option Addr) (len c:Nat) (l:List Int) (x:Int) (w:World) (hx:Reads w 1 A len (ics l)) (hlen:len ≤ 9223372036854775807) :
  Calls Tryz.prog 83 #[.slice A len c,.int .i64 x] w fun e w' => e = .returned (.bool (decide (x ∈ l))) ∧ Below w.heap.size w w':=by
 have HC:=Lib.hid (idxI_any A len c l x w hx hlen)
 clear hx
 obtain ⟨d,hd⟩:∃ d,decide (x ∈ l) = d:=⟨_,rfl⟩
 rw [hd] at HC ⊢
 clear hd
 go_enter Tryz.func83,Tryz.ntmps83
 go_wp2_with fail
 refine HC.out.mono ?_
 rintro e w1 ⟨i,rfl,hib,hb1⟩
 go_wp2
 go_ret
 exact ⟨rfl,hb1⟩

/-! ### Fights,plainly -/
theorem plc_pos {b:Bd} (h:plcP b) {q:Int × Int} (hq:q ∈ b.plc):0 < q.1:=by
 obtain ⟨h1,h2,h3,h4⟩:=h
 have hid:=nodup_of_lt (inc_pw _ h3)
 have e:(b.objs.map fun o => (o.id,o.own)).map Prod.fst = b.objs.map Ob.id:=by rw [List.map_map];rfl
 have hL:(b.objs.map fun o => (o.id,o.own)).Nodup:=by
  rw [← e] at hid
  exact List.Pairwise.of_map Prod.fst (fun a b h e => h (by rw [e])) hid
 have hperm:=perm_of_sub hL (m:=b.plc) (fun x hx => by
  obtain ⟨o,ho,rfl⟩:=List.mem_map.1 hx
  exact (h2 o ho).2.1) (by rw [h4];simp)
 obtain ⟨o,ho,rfl⟩:=List.mem_map.1 (hperm.mem_iff.2 hq)
 have:=(h2 o ho).1
 unfold obOk inR at this
 simp only [Bool.and_eq_true,decide_eq_true_eq] at this
 simp only
 omega
theorem fld_pos {b:Bd} (h:plcP b) (p:Int) {i:Int} (hi:i ∈ b.fld p):0 < i:=by
 unfold Bd.fld at hi
 split at hi
 ·exact plc_pos h (q:=(i,0)) (by unfold Bd.plc Se.ids;simp [hi])
 ·exact plc_pos h (q:=(i,1)) (by unfold Bd.plc Se.ids;simp [hi])
def seenP (A:List Int) (B:List Bk) (f:Int → Option Bool):Prop:=∀ x,(f x).getD false = true ↔ (x ∈ A ∧ x ∉ B.map Bk.a) ∨ ∃ y ∈ B,x = -y.b
theorem seen_nil:seenP [] [] (fun _ => none):=fun x => by simp
theorem seen_att {A:List Int} {f:Int → Option Bool} (h:seenP A [] f) (x:Int):seenP (A ++ [x]) [] (putF f x true):=by
 intro y
 unfold putF
 by_cases e:y = x
 ·subst e;simp
 ·rw [if_neg e,h y]
  simp [e]
theorem seen_blk {A:List Int} {B:List Bk} {f:Int → Option Bool} (h:seenP A B f) (hA:∀ x ∈ A,0 < x) (hB:∀ y ∈ B,0 < y.b) {x:Bk} (hb:0 < x.b) (ha:0 < x.a):seenP A (B ++ [x]) (putF (putF f x.a false) (-x.b) true):=by
 intro y
 unfold putF
 by_cases e:y = -x.b
 ·subst e
  rw [if_pos rfl]
  simp only [Option.getD_some,true_iff]
  exact .inr ⟨x,by simp,rfl⟩
 ·rw [if_neg e]
  by_cases e2:y = x.a
  ·subst e2
   rw [if_pos rfl]
   simp only [Option.getD_some,Bool.false_eq_true,false_iff,not_or,not_and,not_exists]
   refine ⟨fun _ hn => hn (by simp),fun z hz hq => ?_⟩
   rcases List.mem_append.1 hz with hz1 | hz1
   ·have:=hB z hz1;omega
   ·rw [List.mem_singleton] at hz1
    subst hz1
    exact e hq
  ·rw [if_neg e2,h y]
   constructor
   ·rintro (⟨h1,h2⟩ | ⟨z,hz,h3⟩)
    ·refine .inl ⟨h1,?_⟩
     rw [List.map_append,List.mem_append]
     rintro (h4 | h4)
     ·exact h2 h4
     ·simp at h4;exact e2 h4
    ·exact .inr ⟨z,List.mem_append_left _ hz,h3⟩
   ·rintro (⟨h1,h2⟩ | ⟨z,hz,h3⟩)
    ·exact .inl ⟨h1,fun h4 => h2 (by rw [List.map_append];exact List.mem_append_left _ h4)⟩
    ·rcases List.mem_append.1 hz with hz | hz
     ·exact .inr ⟨z,hz,h3⟩
     ·rw [List.mem_singleton] at hz
      subst hz
      exact absurd h3 e
end Go.Proofs.YtagpphelgghbpaaGreat
