/-
  Texts: Cln, Its, Mid.
-/
import Derived.Test.YtagpphelgghbpaaGreatMk10
set_option linter.unusedSimpArgs false
set_option linter.unusedVariables false
namespace Go.Proofs.YtagpphelgghbpaaGreat
open Go.RowKit

theorem tinfo_ints:(Tryz.prog.info? 3).map (fun i => (i.zero,i.size,i.bytes)) = some (some (.int .i64 0),1,8):=by kernel_rfl
theorem tinfo_blks:(Tryz.prog.info? 84).map (fun i => (i.zero,i.size,i.bytes)) = some (some (.agg #[.int .i64 0,.int .i64 0]),2,16):=by kernel_rfl
theorem tinfo_objs:(Tryz.prog.info? 46).map (fun i => (i.zero,i.size,i.bytes)) = some (some (.agg #[.int .i64 0,.int .i64 0,.int .i64 0,.int .i64 0,.int .i64 0,.int .i64 0,.int .i64 0,.int .i64 0,.int .i64 0,.bool false,.bool false,.bool false]),12,80):=by kernel_rfl
theorem tinfo_items:(Tryz.prog.info? 55).map (fun i => (i.zero,i.size,i.bytes)) = some (some (.agg #[.int .i64 0,.int .i64 0,.int .i64 0,.int .i64 0,.slice none 0 0]),5,56):=by kernel_rfl
theorem tinfo_tgts:(Tryz.prog.info? 124).map (fun i => (i.zero,i.size,i.bytes)) = some (some (.agg #[.int .i64 0,.int .i64 0]),2,16):=by kernel_rfl
set_option maxHeartbeats 400000 in
theorem clone_ints (A:Option Addr) (n c:Nat) (xs:List Value) (w:World) (hx:Reads w 1 A n xs) (h1:∀ u ∈ xs,u.oneCell' = true) (hA:A = none → c = 0) (hn:n ≤ 100000) :
  Calls Tryz.prog 61 #[.slice A n c] w fun e w' => ∃ A' c',e = .returned (.slice A' n c') ∧ XOwns w' w.heap.size 3 1 A' n c' xs ∧ Below w.heap.size w w':=by
 cases A with
 | none =>
  have hc:=hA rfl
  subst hc
  have h0:n = 0:=by
   rcases Nat.eq_zero_or_pos n with h0 | h0
   ·exact h0
   ·obtain ⟨ad,e,_⟩:=hx.2 h0
    cases e
  subst h0
  have hxe:xs = []:=List.eq_nil_of_length_eq_zero (by have:=hx.1;simpa using this)
  rw [hxe]
  clear hx hA hxe h1
  have heql:=fun W a n c => Lib.run_eql_slice_nil (P:=Tryz.prog) W 25 3 a n c 0 0 Tryz.underlying25
  go_enter Tryz.func61,Tryz.ntmps61
  go_wp2
  go_ret
  exact ⟨none,0,rfl,⟨World.ownsRow_nil _ _ _ _,fun _ => rfl⟩,Below.refl _ _⟩
 | some ad =>
  have heql:=fun W a n c => Lib.run_eql_slice_nil (P:=Tryz.prog) W 25 3 a n c 0 0 Tryz.underlying25
  have HX:=Lib.hid hx
  have H1:=Lib.hid h1
  clear hx hA h1
  obtain ⟨i0,hi,hz0,hz1,hz2⟩:=info_parts tinfo_ints
  have HI:=Lib.hid hi
  have HZ0:=Lib.hid hz0
  have HZ1:=Lib.hid hz1
  have HZ2:=Lib.hid hz2
  clear hi hz0 hz1 hz2
  go_enter Tryz.func61,Tryz.ntmps61
  go_wp2_with (at_builtin;refine wpList_append_reads _ ?_ (.tmp 5) (.tmp 6) 25 ?_ w.heap.size 3 i0 _ 1 8 Tryz.underlying25 HI.out HZ0.out HZ1.out HZ2.out rfl (by decide) (.slice (some ⟨w.heap.size,0,none⟩) 0 0) 0 [] ?_ (World.ownsRow_lit (base:=w.heap.size) (e:=3) (size:=1) w #[] 0 (Nat.le_refl _) (by unfold maxLen;omega) (by simp)) (some ad) n c xs ?_ (fun h => by cases h) (HX.out.alloc _) H1.out ?_ ?_ ?_ ?_;rfl;rfl;rfl;rfl;(unfold maxLen;omega);omega;(focus (first | omega | (simp only [World.size_alloc];done) | (simp only [World.size_alloc];omega) | (simp;done) | (simp;omega)));intro v2 w2 ho2 hg2 hiff)
  go_ret
  have hb:Below w.heap.size w w2:=Below.trans (by (focus (repeat' (first | (with_reducible exact Below.refl _ _) | (with_reducible assumption) | (with_reducible refine Below.alloc ?_ ?_ _) | (with_reducible refine below_drewN ?_ _) | (with_reducible refine Below.drew ?_) | (with_reducible refine Below.setCell ?_ ?_ _) | omega | (simp;done) | (simp;omega))))) ((Below.refl _ _).grown hg2 (by (focus (first | omega | (simp only [World.size_alloc];done) | (simp only [World.size_alloc];omega) | (simp;done) | (simp;omega)))) (fun k hk => by (have hkk:w.heap.size = k:=by simpa [Value.ownBlock] using hk);omega))
  rw [Nat.zero_add,List.nil_append] at ho2
  rcases ho2.2 with ⟨h0,h00⟩ | ⟨g,cap,cur,h0,_⟩
  ·exact ⟨none,0,by (first | (rw [h00];exact congrArg Ending.returned h0) | (subst h00;exact congrArg Ending.returned h0)),⟨by rw [h0] at ho2;rw [h00] at ho2 ⊢;exact ho2,fun _ => rfl⟩,hb⟩
  ·exact ⟨some ⟨g,0,none⟩,cap,congrArg Ending.returned h0,⟨by rw [h0] at ho2;exact ho2,fun h => by cases h⟩,hb⟩

set_option maxHeartbeats 400000 in
theorem clone_blks (A:Option Addr) (n c:Nat) (xs:List Value) (w:World) (hx:Reads w 2 A n xs) (h1:∀ u ∈ xs,u.oneCell' = true) (hA:A = none → c = 0) (hn:n ≤ 100000) :
  Calls Tryz.prog 62 #[.slice A n c] w fun e w' => ∃ A' c',e = .returned (.slice A' n c') ∧ XOwns w' w.heap.size 84 2 A' n c' xs ∧ Below w.heap.size w w':=by
 cases A with
 | none =>
  have hc:=hA rfl
  subst hc
  have h0:n = 0:=by
   rcases Nat.eq_zero_or_pos n with h0 | h0
   ·exact h0
   ·obtain ⟨ad,e,_⟩:=hx.2 h0
    cases e
  subst h0
  have hxe:xs = []:=List.eq_nil_of_length_eq_zero (by have:=hx.1;simpa using this)
  rw [hxe]
  clear hx hA hxe h1
  have heql:=fun W a n c => Lib.run_eql_slice_nil (P:=Tryz.prog) W 30 84 a n c 0 0 Tryz.underlying30
  go_enter Tryz.func62,Tryz.ntmps62
  go_wp2
  go_ret
  exact ⟨none,0,rfl,⟨World.ownsRow_nil _ _ _ _,fun _ => rfl⟩,Below.refl _ _⟩
 | some ad =>
  have heql:=fun W a n c => Lib.run_eql_slice_nil (P:=Tryz.prog) W 30 84 a n c 0 0 Tryz.underlying30
  have HX:=Lib.hid hx
  have H1:=Lib.hid h1
  clear hx hA h1
  obtain ⟨i0,hi,hz0,hz1,hz2⟩:=info_parts tinfo_blks
  have HI:=Lib.hid hi
  have HZ0:=Lib.hid hz0
  have HZ1:=Lib.hid hz1
  have HZ2:=Lib.hid hz2
  clear hi hz0 hz1 hz2
  go_enter Tryz.func62,Tryz.ntmps62
  go_wp2_with (at_builtin;refine wpList_append_reads _ ?_ (.tmp 5) (.tmp 6) 30 ?_ w.heap.size 84 i0 _ 2 16 Tryz.underlying30 HI.out HZ0.out HZ1.out HZ2.out rfl (by decide) (.slice (some ⟨w.heap.size,0,none⟩) 0 0) 0 [] ?_ (World.ownsRow_lit (base:=w.heap.size) (e:=84) (size:=2) w #[] 0 (Nat.le_refl _) (by unfold maxLen;omega) (by simp)) (some ad) n c xs ?_ (fun h => by cases h) (HX.out.alloc _) H1.out ?_ ?_ ?_ ?_;rfl;rfl;rfl;rfl;(unfold maxLen;omega);omega;(focus (first | omega | (simp only [World.size_alloc];done) | (simp only [World.size_alloc];omega) | (simp;done) | (simp;omega)));intro v2 w2 ho2 hg2 hiff)
  go_ret
  have hb:Below w.heap.size w w2:=Below.trans (by (focus (repeat' (first | (with_reducible exact Below.refl _ _) | (with_reducible assumption) | (with_reducible refine Below.alloc ?_ ?_ _) | (with_reducible refine below_drewN ?_ _) | (with_reducible refine Below.drew ?_) | (with_reducible refine Below.setCell ?_ ?_ _) | omega | (simp;done) | (simp;omega))))) ((Below.refl _ _).grown hg2 (by (focus (first | omega | (simp only [World.size_alloc];done) | (simp only [World.size_alloc];omega) | (simp;done) | (simp;omega)))) (fun k hk => by (have hkk:w.heap.size = k:=by simpa [Value.ownBlock] using hk);omega))
  rw [Nat.zero_add,List.nil_append] at ho2
  rcases ho2.2 with ⟨h0,h00⟩ | ⟨g,cap,cur,h0,_⟩
  ·exact ⟨none,0,by (first | (rw [h00];exact congrArg Ending.returned h0) | (subst h00;exact congrArg Ending.returned h0)),⟨by rw [h0] at ho2;rw [h00] at ho2 ⊢;exact ho2,fun _ => rfl⟩,hb⟩
  ·exact ⟨some ⟨g,0,none⟩,cap,congrArg Ending.returned h0,⟨by rw [h0] at ho2;exact ho2,fun h => by cases h⟩,hb⟩

set_option maxHeartbeats 400000 in
theorem clone_objs (A:Option Addr) (n c:Nat) (xs:List Value) (w:World) (hx:Reads w 12 A n xs) (h1:∀ u ∈ xs,u.oneCell' = true) (hA:A = none → c = 0) (hn:n ≤ 100000) :
  Calls Tryz.prog 60 #[.slice A n c] w fun e w' => ∃ A' c',e = .returned (.slice A' n c') ∧ XOwns w' w.heap.size 46 12 A' n c' xs ∧ Below w.heap.size w w':=by
 cases A with
 | none =>
  have hc:=hA rfl
  subst hc
  have h0:n = 0:=by
   rcases Nat.eq_zero_or_pos n with h0 | h0
   ·exact h0
   ·obtain ⟨ad,e,_⟩:=hx.2 h0
    cases e
  subst h0
  have hxe:xs = []:=List.eq_nil_of_length_eq_zero (by have:=hx.1;simpa using this)
  rw [hxe]
  clear hx hA hxe h1
  have heql:=fun W a n c => Lib.run_eql_slice_nil (P:=Tryz.prog) W 22 46 a n c 0 0 Tryz.underlying22
  go_enter Tryz.func60,Tryz.ntmps60
  go_wp2
  go_ret
  exact ⟨none,0,rfl,⟨World.ownsRow_nil _ _ _ _,fun _ => rfl⟩,Below.refl _ _⟩
 | some ad =>
  have heql:=fun W a n c => Lib.run_eql_slice_nil (P:=Tryz.prog) W 22 46 a n c 0 0 Tryz.underlying22
  have HX:=Lib.hid hx
  have H1:=Lib.hid h1
  clear hx hA h1
  obtain ⟨i0,hi,hz0,hz1,hz2⟩:=info_parts tinfo_objs
  have HI:=Lib.hid hi
  have HZ0:=Lib.hid hz0
  have HZ1:=Lib.hid hz1
  have HZ2:=Lib.hid hz2
  clear hi hz0 hz1 hz2
  go_enter Tryz.func60,Tryz.ntmps60
  go_wp2_with (at_builtin;refine wpList_append_reads _ ?_ (.tmp 5) (.tmp 6) 22 ?_ w.heap.size 46 i0 _ 12 80 Tryz.underlying22 HI.out HZ0.out HZ1.out HZ2.out rfl (by decide) (.slice (some ⟨w.heap.size,0,none⟩) 0 0) 0 [] ?_ (World.ownsRow_lit (base:=w.heap.size) (e:=46) (size:=12) w #[] 0 (Nat.le_refl _) (by unfold maxLen;omega) (by simp)) (some ad) n c xs ?_ (fun h => by cases h) (HX.out.alloc _) H1.out ?_ ?_ ?_ ?_;rfl;rfl;rfl;rfl;(unfold maxLen;omega);omega;(focus (first | omega | (simp only [World.size_alloc];done) | (simp only [World.size_alloc];omega) | (simp;done) | (simp;omega)));intro v2 w2 ho2 hg2 hiff)
  go_ret
  have hb:Below w.heap.size w w2:=Below.trans (by (focus (repeat' (first | (with_reducible exact Below.refl _ _) | (with_reducible assumption) | (with_reducible refine Below.alloc ?_ ?_ _) | (with_reducible refine below_drewN ?_ _) | (with_reducible refine Below.drew ?_) | (with_reducible refine Below.setCell ?_ ?_ _) | omega | (simp;done) | (simp;omega))))) ((Below.refl _ _).grown hg2 (by (focus (first | omega | (simp only [World.size_alloc];done) | (simp only [World.size_alloc];omega) | (simp;done) | (simp;omega)))) (fun k hk => by (have hkk:w.heap.size = k:=by simpa [Value.ownBlock] using hk);omega))
  rw [Nat.zero_add,List.nil_append] at ho2
  rcases ho2.2 with ⟨h0,h00⟩ | ⟨g,cap,cur,h0,_⟩
  ·exact ⟨none,0,by (first | (rw [h00];exact congrArg Ending.returned h0) | (subst h00;exact congrArg Ending.returned h0)),⟨by rw [h0] at ho2;rw [h00] at ho2 ⊢;exact ho2,fun _ => rfl⟩,hb⟩
  ·exact ⟨some ⟨g,0,none⟩,cap,congrArg Ending.returned h0,⟨by rw [h0] at ho2;exact ho2,fun h => by cases h⟩,hb⟩

set_option maxHeartbeats 400000 in
theorem clone_items (A:Option Addr) (n c:Nat) (xs:List Value) (w:World) (hx:Reads w 5 A n xs) (h1:∀ u ∈ xs,u.oneCell' = true) (hA:A = none → c = 0) (hn:n ≤ 100000) :
  Calls Tryz.prog 96 #[.slice A n c] w fun e w' => ∃ A' c',e = .returned (.slice A' n c') ∧ XOwns w' w.heap.size 55 5 A' n c' xs ∧ Below w.heap.size w w':=by
 cases A with
 | none =>
  have hc:=hA rfl
  subst hc
  have h0:n = 0:=by
   rcases Nat.eq_zero_or_pos n with h0 | h0
   ·exact h0
   ·obtain ⟨ad,e,_⟩:=hx.2 h0
    cases e
  subst h0
  have hxe:xs = []:=List.eq_nil_of_length_eq_zero (by have:=hx.1;simpa using this)
  rw [hxe]
  clear hx hA hxe h1
  have heql:=fun W a n c => Lib.run_eql_slice_nil (P:=Tryz.prog) W 29 55 a n c 0 0 Tryz.underlying29
  go_enter Tryz.func96,Tryz.ntmps96
  go_wp2
  go_ret
  exact ⟨none,0,rfl,⟨World.ownsRow_nil _ _ _ _,fun _ => rfl⟩,Below.refl _ _⟩
 | some ad =>
  have heql:=fun W a n c => Lib.run_eql_slice_nil (P:=Tryz.prog) W 29 55 a n c 0 0 Tryz.underlying29
  have HX:=Lib.hid hx
  have H1:=Lib.hid h1
  clear hx hA h1
  obtain ⟨i0,hi,hz0,hz1,hz2⟩:=info_parts tinfo_items
  have HI:=Lib.hid hi
  have HZ0:=Lib.hid hz0
  have HZ1:=Lib.hid hz1
  have HZ2:=Lib.hid hz2
  clear hi hz0 hz1 hz2
  go_enter Tryz.func96,Tryz.ntmps96
  go_wp2_with (at_builtin;refine wpList_append_reads _ ?_ (.tmp 5) (.tmp 6) 29 ?_ w.heap.size 55 i0 _ 5 56 Tryz.underlying29 HI.out HZ0.out HZ1.out HZ2.out rfl (by decide) (.slice (some ⟨w.heap.size,0,none⟩) 0 0) 0 [] ?_ (World.ownsRow_lit (base:=w.heap.size) (e:=55) (size:=5) w #[] 0 (Nat.le_refl _) (by unfold maxLen;omega) (by simp)) (some ad) n c xs ?_ (fun h => by cases h) (HX.out.alloc _) H1.out ?_ ?_ ?_ ?_;rfl;rfl;rfl;rfl;(unfold maxLen;omega);omega;(focus (first | omega | (simp only [World.size_alloc];done) | (simp only [World.size_alloc];omega) | (simp;done) | (simp;omega)));intro v2 w2 ho2 hg2 hiff)
  go_ret
  have hb:Below w.heap.size w w2:=Below.trans (by (focus (repeat' (first | (with_reducible exact Below.refl _ _) | (with_reducible assumption) | (with_reducible refine Below.alloc ?_ ?_ _) | (with_reducible refine below_drewN ?_ _) | (with_reducible refine Below.drew ?_) | (with_reducible refine Below.setCell ?_ ?_ _) | omega | (simp;done) | (simp;omega))))) ((Below.refl _ _).grown hg2 (by (focus (first | omega | (simp only [World.size_alloc];done) | (simp only [World.size_alloc];omega) | (simp;done) | (simp;omega)))) (fun k hk => by (have hkk:w.heap.size = k:=by simpa [Value.ownBlock] using hk);omega))
  rw [Nat.zero_add,List.nil_append] at ho2
  rcases ho2.2 with ⟨h0,h00⟩ | ⟨g,cap,cur,h0,_⟩
  ·exact ⟨none,0,by (first | (rw [h00];exact congrArg Ending.returned h0) | (subst h00;exact congrArg Ending.returned h0)),⟨by rw [h0] at ho2;rw [h00] at ho2 ⊢;exact ho2,fun _ => rfl⟩,hb⟩
  ·exact ⟨some ⟨g,0,none⟩,cap,congrArg Ending.returned h0,⟨by rw [h0] at ho2;exact ho2,fun h => by cases h⟩,hb⟩

set_option maxHeartbeats 400000 in
theorem clone_tgts (A:Option Addr) (n c:Nat) (xs:List Value) (w:World) (hx:Reads w 2 A n xs) (h1:∀ u ∈ xs,u.oneCell' = true) (hA:A = none → c = 0) (hn:n ≤ 100000) :
  Calls Tryz.prog 97 #[.slice A n c] w fun e w' => ∃ A' c',e = .returned (.slice A' n c') ∧ XOwns w' w.heap.size 124 2 A' n c' xs ∧ Below w.heap.size w w':=by
 cases A with
 | none =>
  have hc:=hA rfl
  subst hc
  have h0:n = 0:=by
   rcases Nat.eq_zero_or_pos n with h0 | h0
   ·exact h0
   ·obtain ⟨ad,e,_⟩:=hx.2 h0
    cases e
  subst h0
  have hxe:xs = []:=List.eq_nil_of_length_eq_zero (by have:=hx.1;simpa using this)
  rw [hxe]
  clear hx hA hxe h1
  have heql:=fun W a n c => Lib.run_eql_slice_nil (P:=Tryz.prog) W 53 124 a n c 0 0 Tryz.underlying53
  go_enter Tryz.func97,Tryz.ntmps97
  go_wp2
  go_ret
  exact ⟨none,0,rfl,⟨World.ownsRow_nil _ _ _ _,fun _ => rfl⟩,Below.refl _ _⟩
 | some ad =>
  have heql:=fun W a n c => Lib.run_eql_slice_nil (P:=Tryz.prog) W 53 124 a n c 0 0 Tryz.underlying53
  have HX:=Lib.hid hx
  have H1:=Lib.hid h1
  clear hx hA h1
  obtain ⟨i0,hi,hz0,hz1,hz2⟩:=info_parts tinfo_tgts
  have HI:=Lib.hid hi
  have HZ0:=Lib.hid hz0
  have HZ1:=Lib.hid hz1
  have HZ2:=Lib.hid hz2
  clear hi hz0 hz1 hz2
  go_enter Tryz.func97,Tryz.ntmps97
  go_wp2_with (at_builtin;refine wpList_append_reads _ ?_ (.tmp 5) (.tmp 6) 53 ?_ w.heap.size 124 i0 _ 2 16 Tryz.underlying53 HI.out HZ0.out HZ1.out HZ2.out rfl (by decide) (.slice (some ⟨w.heap.size,0,none⟩) 0 0) 0 [] ?_ (World.ownsRow_lit (base:=w.heap.size) (e:=124) (size:=2) w #[] 0 (Nat.le_refl _) (by unfold maxLen;omega) (by simp)) (some ad) n c xs ?_ (fun h => by cases h) (HX.out.alloc _) H1.out ?_ ?_ ?_ ?_;rfl;rfl;rfl;rfl;(unfold maxLen;omega);omega;(focus (first | omega | (simp only [World.size_alloc];done) | (simp only [World.size_alloc];omega) | (simp;done) | (simp;omega)));intro v2 w2 ho2 hg2 hiff)
  go_ret
  have hb:Below w.heap.size w w2:=Below.trans (by (focus (repeat' (first | (with_reducible exact Below.refl _ _) | (with_reducible assumption) | (with_reducible refine Below.alloc ?_ ?_ _) | (with_reducible refine below_drewN ?_ _) | (with_reducible refine Below.drew ?_) | (with_reducible refine Below.setCell ?_ ?_ _) | omega | (simp;done) | (simp;omega))))) ((Below.refl _ _).grown hg2 (by (focus (first | omega | (simp only [World.size_alloc];done) | (simp only [World.size_alloc];omega) | (simp;done) | (simp;omega)))) (fun k hk => by (have hkk:w.heap.size = k:=by simpa [Value.ownBlock] using hk);omega))
  rw [Nat.zero_add,List.nil_append] at ho2
  rcases ho2.2 with ⟨h0,h00⟩ | ⟨g,cap,cur,h0,_⟩
  ·exact ⟨none,0,by (first | (rw [h00];exact congrArg Ending.returned h0) | (subst h00;exact congrArg Ending.returned h0)),⟨by rw [h0] at ho2;rw [h00] at ho2 ⊢;exact ho2,fun _ => rfl⟩,hb⟩
  ·exact ⟨some ⟨g,0,none⟩,cap,congrArg Ending.returned h0,⟨by rw [h0] at ho2;exact ho2,fun h => by cases h⟩,hb⟩

theorem XOwns.setX {w:World} {base:Nat} {e:TypeId} {size g n c:Nat} {xs:List Value} (h:XOwns w base e size (some ⟨g,0,none⟩) n c xs) (j:Nat) (u:Value):XOwns (w.setCell ⟨g,j,none⟩ u) base e size (some ⟨g,0,none⟩) n c (xs.set j u) :=
 ⟨(h.1.stored j u).1,h.2⟩
theorem itcs_set:∀ (l:List It) (ts:List Sl) (i:Nat) (x:It) (t:Sl),ts.length = l.length → l[i]? = some x → (itcs (l.zip ts)).set (i * 5 + 4) (t.v x.tgs.length) = itcs (l.zip (ts.set i t))
 | [],_,_,_,_,_,h => by simp at h
 | y :: l,[],_,_,_,h,_ => by simp at h
 | y :: l,s :: ts,0,x,t,_,h => by
  simp at h
  subst h
  rfl
 | y :: l,s :: ts,i + 1,x,t,hl,h => by
  have:=itcs_set l ts i x t (by simpa using hl) (by simpa using h)
  show (y.cells s ++ itcs (l.zip ts)).set _ _ = y.cells s ++ itcs (l.zip (ts.set i t))
  rw [← this,List.set_append_right _ _ (show (y.cells s).length ≤ _ by show 5 ≤ _;omega),show (i + 1) * 5 + 4 - (y.cells s).length = i * 5 + 4 by show (i + 1) * 5 + 4 - 5 = _;omega]
theorem itcs_at {l:List It} {ts:List Sl} {i:Nat} {x:It} {t:Sl} (hx:l[i]? = some x) (ht:ts[i]? = some t):(itcs (l.zip ts))[i * 5 + 4]? = some (t.v x.tgs.length):=by
 have hz:(l.zip ts)[i]? = some (x,t):=by
  rw [List.getElem?_zip_eq_some]
  exact ⟨hx,ht⟩
 exact (flatMap_at (enc:=fun p:It × Sl => p.1.cells p.2) (k:=5) (fun _ => rfl) hz (j:=4) (by decide)).trans rfl
theorem one_itcs (l:List (It × Sl)):∀ u ∈ itcs l,u.oneCell' = true:=by
 intro u hu
 unfold itcs at hu
 obtain ⟨p,_,hp⟩:=List.mem_flatMap.1 hu
 simp only [It.cells,Sl.v,List.mem_cons,List.not_mem_nil,or_false] at hp
 rcases hp with rfl | rfl | rfl | rfl | rfl <;> rfl
theorem one_tcs (l:List Tg):∀ u ∈ tcs l,u.oneCell' = true:=by
 intro u hu
 unfold tcs at hu
 obtain ⟨p,_,hp⟩:=List.mem_flatMap.1 hu
 simp only [Tg.cells,List.mem_cons,List.not_mem_nil,or_false] at hp
 rcases hp with rfl | rfl <;> rfl
structure IsO (W:World) (B:Nat) (s:Sl) (l:List It) (ts:List Sl):Prop where
 len:ts.length = l.length
 row:XOwns W B 55 5 s.A l.length s.c (itcs (l.zip ts))
 tg:∀ (i:Nat) (x:It) (t:Sl),l[i]? = some x → ts[i]? = some t → XOwns W B 124 2 t.A x.tgs.length t.c (tcs x.tgs)
theorem XOwns.okS {W:World} {base:Nat} {e:TypeId} {size n:Nat} {xs:List Value} {t:Sl} (h:XOwns W base e size t.A n t.c xs):t.ok n:=⟨h.capOk.1,h.2,h.capOk.2⟩
section
variable {W W':World} {B:Nat} {s:Sl} {l:List It} {ts:List Sl}
theorem IsO.isR (h:IsO W B s l ts):IsR W s l ts:=⟨h.len,h.row.reads,h.row.okS,fun i x t h1 h2 => ⟨(h.tg i x t h1 h2).reads,(h.tg i x t h1 h2).okS⟩⟩
theorem IsO.below (h:IsO W B s l ts) (hb:Below W.heap.size W W'):IsO W' B s l ts:=⟨h.len,h.row.below hb,fun i x t h1 h2 => (h.tg i x t h1 h2).below hb⟩
theorem IsO.more {B':Nat} (h:IsO W B s l ts) (hb:B' ≤ B):IsO W B' s l ts:=⟨h.len,h.row.more hb,fun i x t h1 h2 => (h.tg i x t h1 h2).more hb⟩
theorem IsO.blk {g t:Nat} {cs:Array Value} (h:IsO W B s l ts) (hk:Blk W g t cs) (hg:W.grownBy W' (some g)) (h1:55 ≠ t) (h2:124 ≠ t):IsO W' B s l ts :=
 ⟨h.len,h.row.grown hg (.inr (h.row.apart_blk hk h1)),fun i x u h3 h4 => (h.tg i x u h3 h4).grown hg (.inr ((h.tg i x u h3 h4).apart_blk hk h2))⟩
end
theorem XOwns.blk_ {W W':World} {base e size n c g t:Nat} {A:Option Addr} {xs:List Value} {cs:Array Value} (h:XOwns W base e size A n c xs) (hk:Blk W g t cs) (hg:W.grownBy W' (some g)) (h1:e ≠ t):XOwns W' base e size A n c xs:=h.grown hg (.inr (h.apart_blk hk h1))
structure ItS (w:World) (l:List It) (ts:List Sl) (A:Option Addr) (n c k:Nat) (ts':List Sl) (W:World):Prop where
 row:XOwns W w.heap.size 55 5 A n c (itcs (l.zip ts'))
 len:ts'.length = l.length
 tg:∀ (i:Nat) (x:It) (t:Sl),l[i]? = some x → ts'[i]? = some t → (k ≤ i ∧ ts[i]? = some t) ∨ XOwns W w.heap.size 124 2 t.A x.tgs.length t.c (tcs x.tgs)
 bel:Below w.heap.size w W
section
variable {w W W':World} {l:List It} {ts ts':List Sl} {A:Option Addr} {n c k:Nat} {s:Sl}
theorem ItS.below (h:ItS w l ts A n c k ts' W) (hb:Below W.heap.size W W'):ItS w l ts A n c k ts' W' :=
 ⟨h.row.below hb,h.len,fun i x t h1 h2 => (h.tg i x t h1 h2).imp id (fun h => h.below hb),below_call h.bel hb h.bel.size⟩
theorem ItS.reads (h:ItS w l ts A n c k ts' W) (hr:IsR w s l ts) {i:Nat} {x:It} {t:Sl} (h1:l[i]? = some x) (h2:ts'[i]? = some t):Reads W 2 t.A x.tgs.length (tcs x.tgs) ∧ t.ok x.tgs.length:=by
 rcases h.tg i x t h1 h2 with ⟨_,h3⟩ | h3
 ·exact ⟨(hr.tg i x t h1 h3).1.below h.bel,(hr.tg i x t h1 h3).2⟩
 ·exact ⟨h3.reads,h3.okS⟩
theorem ItS.put {g:Nat} (h:ItS w l ts (some ⟨g,0,none⟩) n c k ts' W) {x:It} {t:Sl} (hx:l[k]? = some x) (ht:XOwns W w.heap.size 124 2 t.A x.tgs.length t.c (tcs x.tgs)) :
  ItS w l ts (some ⟨g,0,none⟩) n c (k + 1) (ts'.set k t) (W.setCell ⟨g,k * 5 + 4,none⟩ (t.v x.tgs.length)):=by
 have hap:∀ {t':Sl} {m:Nat} {xs:List Value},XOwns W w.heap.size 124 2 t'.A m t'.c xs → blkOf t'.A ≠ some g:=fun {t' m xs} h' he => by
  rcases h'.apart h.row (by decide) with h1 | h1
  ·rw [h1] at he;cases he
  ·exact h1 (by rw [he];rfl)
 refine ⟨?_,by rw [List.length_set];exact h.len,fun i y t' h1 h2 => ?_,?_⟩
 ·have:=h.row.setX (k * 5 + 4) (t.v x.tgs.length)
  rwa [itcs_set l ts' k x t h.len hx] at this
 ·by_cases e:i = k
  ·subst e
   rw [hx] at h1
   obtain rfl:=Option.some.inj h1
   have hlt:i < ts'.length:=by rw [h.len];exact (List.getElem?_eq_some_iff.1 hx).1
   rw [List.getElem?_set_self hlt] at h2
   obtain rfl:=Option.some.inj h2
   exact .inr (ht.put (hap ht))
  ·rw [List.getElem?_set_ne (fun e' => e e'.symm)] at h2
   rcases h.tg i y t' h1 h2 with ⟨h3,h4⟩ | h3
   ·exact .inl ⟨by omega,h4⟩
   ·exact .inr (h3.put (hap h3))
 ·exact h.bel.setCell ((h.row.lt g rfl).1) _
theorem ItS.done (h:ItS w l ts A n c k ts' W) (hr:IsR w s l ts) (hn:l.length = n) (hk:k = n):IsO W w.heap.size ⟨A,c⟩ l ts' :=
 ⟨h.len,by rw [hn];exact h.row,fun i x t h1 h2 => by
  rcases h.tg i x t h1 h2 with ⟨h3,_⟩ | h3
  ·have:=(List.getElem?_eq_some_iff.1 h1).1
   omega
  ·exact h3⟩
end
def ItsEnd (l:List It) (n:Nat) (w:World) (e:Ending) (w':World):Prop:=∃ (s:Sl) (ts:List Sl),e = .returned (.slice s.A n s.c) ∧ IsO w' w.heap.size s l ts ∧ Below w.heap.size w w'

set_option maxHeartbeats 800000 in
theorem its_board (s:Sl) (n:Nat) (l:List It) (ts:List Sl) (w:World) (h:IsR w s l ts) (hn:l.length = n) (hn2:n ≤ 100000) (h4:∀ x ∈ l,x.tgs.length ≤ 100000) :
  Calls Tryz.prog 63 #[.slice s.A n s.c] w (ItsEnd l n w):=by
 obtain ⟨A,c⟩:=s
 have HR:=Lib.hid h
 have HN:=Lib.hid hn
 have H4:=Lib.hid h4
 have HC:=Lib.hid (clone_items A n c (itcs (l.zip ts)) w (by have:=h.row;rwa [hn] at this) (one_itcs _) h.ok.2.1 hn2)
 clear h hn h4
 simp only
 go_enter Tryz.func63,Tryz.ntmps63
 go_wp2_with fail
 refine HC.out.mono ?_
 rintro e w1 ⟨A1,c1,rfl,hx1,hb1⟩
 have HI0:Hid (ItS w l ts A1 n c1 0 ts w1):=Lib.hid ⟨hx1,HR.out.len,fun i x t _ h2 => .inl ⟨Nat.zero_le _,h2⟩,hb1⟩
 clear hx1 hb1
 go_wp2_with fail
 go_loopw [9] (fun i W => ∃ (k:Nat) (ts':List Sl),k ≤ n ∧ i = .int .i64 k ∧ Hid (ItS w l ts A1 n c1 k ts' W)) (fun i _ => n - (intOf i).toNat)
 case atStart => exact ⟨0,ts,Nat.zero_le _,rfl,HI0⟩
 case round =>
  clear HI0
  obtain ⟨k,ts',hk,rfl,HI⟩:=hrel
  by_cases hkn:k < n
  ·have hkn':(k:Int) < n:=by omega
   obtain ⟨x,hx⟩:=get_of (l:=l) (k:=k) (by rw [HN.out];exact hkn)
   obtain ⟨t,ht⟩:=get_of (l:=ts') (k:=k) (by rw [HI.out.len,HN.out];exact hkn)
   have hrd:=HI.out.reads HR.out hx ht
   obtain ⟨g,rfl,hg1,hg2,c0,f0⟩:=HI.out.row.cell (itcs_at hx ht)
   obtain ⟨tA,tc⟩:=t
   have HCT:=Lib.hid (clone_tgts tA x.tgs.length tc (tcs x.tgs) wr hrd.1 (one_tcs _) hrd.2.2.1 (H4.out x (List.mem_of_getElem? hx)))
   have HX:=Lib.hid hx
   simp only [Sl.v] at c0
   clear hrd hx ht
   obtain ⟨nt,hnt⟩:∃ m,x.tgs.length = m:=⟨_,rfl⟩
   have HNT:=Lib.hid hnt
   rw [hnt] at c0 HCT
   clear hnt
   go_wp2_with fail
   refine HCT.out.mono ?_
   rintro e w2 ⟨A2,c2,rfl,hx2,hb2⟩
   have HI2:=Lib.hid (HI.out.below hb2)
   have HI3:=Lib.hid (HI2.out.put (t:=⟨A2,c2⟩) HX.out (by rw [HNT.out];exact hx2.more HI.out.bel.size))
   rw [HNT.out] at HI3
   simp only [Sl.v] at HI3
   have hlt2:g < w2.heap.size:=(HI2.out.row.lt g rfl).2
   have f2:w2.frozen? ⟨g,k * 5 + 4,none⟩ = false:=by rw [← f0];exact hb2.frozen (p:=⟨g,k * 5 + 4,none⟩) hg2
   have c2':w2.cell? ⟨g,k * 5 + 4,none⟩ = some (.slice tA nt tc):=by rw [← c0];exact keep_at hb2 g hg2 _
   clear hx2 hb2 f0 c0 HI HI2
   go_wp2_with fail
   go_roundw
   case rel => exact ⟨k + 1,_,hkn,by go_num,HI3⟩
   case measure => simp [intOf];omega
  ·have HKE:Hid (k = n):=Lib.hid (by omega)
   clear hk
   go_wp2_with fail
   go_ret
   exact ⟨⟨A1,c1⟩,ts',rfl,HI.out.done HR.out HN.out HKE.out,HI.out.bel⟩


set_option maxHeartbeats 800000 in
theorem its_view (s:Sl) (n:Nat) (l:List It) (ts:List Sl) (w:World) (h:IsR w s l ts) (hn:l.length = n) (hn2:n ≤ 100000) (h4:∀ x ∈ l,x.tgs.length ≤ 100000) :
  Calls Tryz.prog 102 #[.slice s.A n s.c] w (ItsEnd l n w):=by
 obtain ⟨A,c⟩:=s
 have HR:=Lib.hid h
 have HN:=Lib.hid hn
 have H4:=Lib.hid h4
 have HC:=Lib.hid (clone_items A n c (itcs (l.zip ts)) w (by have:=h.row;rwa [hn] at this) (one_itcs _) h.ok.2.1 hn2)
 clear h hn h4
 simp only
 go_enter Tryz.func102,Tryz.ntmps102
 go_wp2_with fail
 refine HC.out.mono ?_
 rintro e w1 ⟨A1,c1,rfl,hx1,hb1⟩
 have HI0:Hid (ItS w l ts A1 n c1 0 ts w1):=Lib.hid ⟨hx1,HR.out.len,fun i x t _ h2 => .inl ⟨Nat.zero_le _,h2⟩,hb1⟩
 clear hx1 hb1
 go_wp2_with fail
 go_loopw [8] (fun i W => ∃ (k:Nat) (ts':List Sl),k ≤ n ∧ i = .int .i64 k ∧ Hid (ItS w l ts A1 n c1 k ts' W)) (fun i _ => n - (intOf i).toNat)
 case atStart => exact ⟨0,ts,Nat.zero_le _,rfl,HI0⟩
 case round =>
  clear HI0
  obtain ⟨k,ts',hk,rfl,HI⟩:=hrel
  by_cases hkn:k < n
  ·have hkn':(k:Int) < n:=by omega
   obtain ⟨x,hx⟩:=get_of (l:=l) (k:=k) (by rw [HN.out];exact hkn)
   obtain ⟨t,ht⟩:=get_of (l:=ts') (k:=k) (by rw [HI.out.len,HN.out];exact hkn)
   have hrd:=HI.out.reads HR.out hx ht
   obtain ⟨g,rfl,hg1,hg2,c0,f0⟩:=HI.out.row.cell (itcs_at hx ht)
   obtain ⟨tA,tc⟩:=t
   have HCT:=Lib.hid (clone_tgts tA x.tgs.length tc (tcs x.tgs) wr hrd.1 (one_tcs _) hrd.2.2.1 (H4.out x (List.mem_of_getElem? hx)))
   have HX:=Lib.hid hx
   simp only [Sl.v] at c0
   clear hrd hx ht
   obtain ⟨nt,hnt⟩:∃ m,x.tgs.length = m:=⟨_,rfl⟩
   have HNT:=Lib.hid hnt
   rw [hnt] at c0 HCT
   clear hnt
   go_wp2_with fail
   refine HCT.out.mono ?_
   rintro e w2 ⟨A2,c2,rfl,hx2,hb2⟩
   have HI2:=Lib.hid (HI.out.below hb2)
   have HI3:=Lib.hid (HI2.out.put (t:=⟨A2,c2⟩) HX.out (by rw [HNT.out];exact hx2.more HI.out.bel.size))
   rw [HNT.out] at HI3
   simp only [Sl.v] at HI3
   have hlt2:g < w2.heap.size:=(HI2.out.row.lt g rfl).2
   have f2:w2.frozen? ⟨g,k * 5 + 4,none⟩ = false:=by rw [← f0];exact hb2.frozen (p:=⟨g,k * 5 + 4,none⟩) hg2
   have c2':w2.cell? ⟨g,k * 5 + 4,none⟩ = some (.slice tA nt tc):=by rw [← c0];exact keep_at hb2 g hg2 _
   clear hx2 hb2 f0 c0 HI HI2
   go_wp2_with fail
   go_roundw
   case rel => exact ⟨k + 1,_,hkn,by go_num,HI3⟩
   case measure => simp [intOf];omega
  ·have HKE:Hid (k = n):=Lib.hid (by omega)
   clear hk
   go_wp2_with fail
   go_ret
   exact ⟨⟨A1,c1⟩,ts',rfl,HI.out.done HR.out HN.out HKE.out,HI.out.bel⟩

set_option maxRecDepth 100000 in
theorem size_object:(Tryz.prog.info? 46).map (·.size) = some 12:=by decide +kernel
theorem ret_cell {fn:Func} {p:Tmp} {ty:TypeId} {tmps:Array Value} {w:World} {g t:Nat} {cs:Array Value} {d:TypeDesc} (h:fn.results = #[.cell p ty]) (hp:tmps.getD p undef = .pointer (some ⟨g,0,none⟩)) (hb:Blk w g t cs)
  (hu:Tryz.prog.underlying ty = some d) (hd:d.isRow = true) (hi:(Tryz.prog.info? ty).map (·.size) = some cs.size):(results fn tmps).run Tryz.prog w = .ok (.agg cs) w:=by
 unfold Blk at hb
 exact results_cell_row h tmps w g t cs (0,0) d hp hb hu (by cases d <;> simp_all) hi
theorem take_set_ {α:Type} (v:α):∀ (cs:List α) (o:Nat),o < cs.length → (cs.set o v).take (o + 1) = cs.take o ++ [v]
 | [],_,h => by simp at h
 | c :: cs,0,_ => by simp
 | c :: cs,o + 1,h => by
  have:=take_set_ v cs o (by simpa using h)
  simp [this]
theorem setCells_blk {g t:Nat}:∀ (vs:List Value) (o:Nat) (w:World) (cs:List Value),Blk w g t cs.toArray → o + vs.length = cs.length → Blk (w.setCells g o vs) g t (cs.take o ++ vs).toArray
 | [],o,w,cs,h,hl => by
  rw [List.take_of_length_le (by simp at hl;omega),List.append_nil]
  exact h
 | v :: r,o,w,cs,h,hl => by
  have h1:=h.put o v
  rw [List.setIfInBounds_toArray] at h1
  have h2:=setCells_blk r (o + 1) _ (cs.set o v) h1 (by simp at hl ⊢;omega)
  rw [take_set_ v cs o (by simp at hl;omega),List.append_assoc] at h2
  exact h2
theorem setCells_only {g:Nat} {a:World}:∀ (vs:List Value) (o:Nat) (w:World),a.grownBy w (some g) → a.grownBy (w.setCells g o vs) (some g)
 | [],_,_,h => h
 | v :: r,o,w,h => setCells_only r (o + 1) _ (only_setCell h (.inl rfl) v)
theorem Blk.storeAll {W:World} {g t ty:Nat} {cs:Array Value} (h:Blk W g t cs) (vs:List Value) (hl:vs.length = cs.size) (hi:(Tryz.prog.info? ty).map (·.size) = some vs.length) (h1:∀ v ∈ vs,v.oneCell' = true) :
  ∃ w',(Instr.storeAt ty (.pointer (some ⟨g,0,none⟩)) (.agg vs.toArray)).run Tryz.prog W = .ok () w' ∧ Blk w' g t vs.toArray ∧ W.grownBy w' (some g):=by
 refine ⟨_,run_storeAt_mid W g 0 ty vs.toArray (fun j hj => ⟨?_,h.free _⟩) (by simpa using hi) (all_oneCell_toArray h1),?_,?_⟩
 ·rw [h.at_,Nat.zero_add]
  have:j < cs.size:=by rw [← hl];simpa using hj
  simp [this]
 ·have:=setCells_blk vs 0 W cs.toList h (by simp [hl])
  simpa using this
 ·exact setCells_only _ _ _ (only_refl _ _)
theorem wpList_store_by {P:Program} {ops:Array Oper} {rest:List Oper} {op:Oper} {a:Act} {w w':World} {Q:Exit → Act → World → Prop} {ty:TypeId} {x y:Operand} {p v:Value} (hl:(Instr.storeAt ty p v).run P w = .ok () w')
  (ho:op.op = .store ty x y) (hw:Region.wanted op (yielded ops a.tmps) = true) (hx:a.eval x = p) (hy:a.eval y = v) (h:wpList P ops Q rest (a.put op.dst undef) w'):wpList P ops Q (op :: rest) a w :=
 wpList_step fun K hK => by
  simp only [hw,if_true]
  unfold Oper.wp execOp
  simp only [ho,hx,hy,hl,Sem.run_bind,Sem.run_pure,Result.andThen_ok]
  exact hK _ _ h
end Go.Proofs.YtagpphelgghbpaaGreat
