/-
  Texts: Fin, Itm.
-/
import Derived.Test.YtagpphelgghbpaaGreatMk3
set_option linter.unusedSimpArgs false
set_option linter.unusedVariables false
namespace Go.Proofs.YtagpphelgghbpaaGreat
open Go.RowKit

theorem get_of {α:Type} {l:List α} {k:Nat} (h:k < l.length):∃ x,l[k]? = some x:=⟨_,List.getElem?_eq_getElem h⟩
def IdxEnd (d:Bool) (w:World) (e:Ending) (w':World):Prop:=∃ i:Int,e = .returned (.int .i64 i) ∧ decide (0 ≤ i) = d ∧ Below w.heap.size w w'
theorem all_of {α:Type} {l:List α} {p:α → Bool} {n:Nat} (hn:l.length = n) (h:∀ q x,q < n → l[q]? = some x → p x = true):l.all p = true:=by
 rw [List.all_eq_true]
 intro x hx
 obtain ⟨q,hq,he⟩:=List.getElem_of_mem hx
 exact h q x (by omega) (by rw [List.getElem?_eq_getElem hq,he])
theorem none_of {α:Type} {l:List α} {p:α → Bool} {q:Nat} {x:α} (h:l[q]? = some x) (hp:p x = false):l.all p = false:=by
 rw [List.all_eq_false]
 exact ⟨x,List.mem_of_getElem? h,by rw [hp];decide⟩
set_option maxHeartbeats 800000 in
theorem idxT_any (A:Option Addr) (len c:Nat) (l:List Tg) (w:World) (hx:Reads w 2 A len (tcs l)) (hlen:len ≤ 9223372036854775807) :
  Calls Tryz.prog 110 #[.slice A len c,.func (.func 79) #[] #[]] w (IdxEnd (!l.all tgOk) w):=by
 have HX:=Lib.hid hx
 have HL:=Lib.hid (rlen (enc:=Tg.cells) (fun _ => rfl) (by decide) hx)
 clear hx
 go_enter Tryz.func110,Tryz.ntmps110
 go_wp2
 go_loopw [8] (fun i W => ∃ k:Nat,k ≤ len ∧ i = .int .i64 k ∧ Hid (∀ q x,q < k → l[q]? = some x → tgOk x = true) ∧ Below w.heap.size w W) (fun i _ => len - (intOf i).toNat)
 case atStart => exact ⟨0,Nat.zero_le _,rfl,Lib.hid (fun q x h => absurd h (by omega)),Below.refl _ _⟩
 case round =>
  obtain ⟨k,hk,rfl,HE,hB⟩:=hrel
  have hz:=hB.size
  by_cases hlt:k < len
  ·obtain ⟨x,hx⟩:=get_of (l:=l) (k:=k) (by rw [HL.out];exact hlt)
   obtain ⟨ad,rfl,-,c0,c1⟩:=tgt_at (HX.out.below hB) hx hlt
   have hlt':(k:Int) < len:=by omega
   have HG:=Lib.hid hx
   clear hx
   obtain ⟨xi,xp⟩:=x
   simp only at c0 c1
   have HN:=Lib.hid (fun W => naimed_any ⟨xi,xp⟩ W)
   go_wp2_with fail
   refine (HN.out _).mono ?_
   rintro e w1 ⟨rfl,hb1⟩
   cases hok:tgOk ⟨xi,xp⟩ with
   | true =>
    have HEE:Hid (∀ q x,q < k + 1 → l[q]? = some x → tgOk x = true):=Lib.hid (fun q x hq hg => by
     rcases Nat.lt_or_ge q k with h | h
     ·exact HE.out q x h hg
     ·obtain rfl:q = k:=by omega
      rw [HG.out] at hg
      rw [← Option.some.inj hg]
      exact hok)
    clear hok
    go_wp2
    go_roundw
    case rel => exact ⟨k + 1,hlt,by go_num,HEE,below_call hB hb1 hz⟩
    case measure => simp [intOf];omega
   | false =>
    have HA:=Lib.hid (none_of HG.out hok)
    clear hok
    go_wp2
    go_ret
    exact ⟨k,rfl,by rw [HA.out];simp,below_call hB hb1 hz⟩
  ·obtain rfl:k = len:=by omega
   have HA:=Lib.hid (all_of HL.out HE.out)
   go_wp2
   go_ret
   exact ⟨-1,rfl,by rw [HA.out];rfl,hB⟩
theorem anyT_any (A:Option Addr) (len c:Nat) (l:List Tg) (w:World) (hx:Reads w 2 A len (tcs l)) (hlen:len ≤ 9223372036854775807) :
  Calls Tryz.prog 78 #[.slice A len c,.func (.func 79) #[] #[]] w fun e w' => e = .returned (.bool (!l.all tgOk)) ∧ Below w.heap.size w w':=by
 have HC:=Lib.hid (idxT_any A len c l w hx hlen)
 clear hx
 go_enter Tryz.func78,Tryz.ntmps78
 go_wp2_with fail
 refine HC.out.mono ?_
 rintro e w1 ⟨i,rfl,hib,hb1⟩
 go_wp2
 go_ret
 exact ⟨rfl,hb1⟩
 -- fine
set_option maxRecDepth 100000 in
set_option maxHeartbeats 1600000 in
theorem fine_any (q:Bool) (x:It) (t:Sl) (w:World) (hx:Reads w 2 t.A x.tgs.length (tcs x.tgs)) (hc:x.tgs.length ≤ 9223372036854775807) :
  Calls Tryz.prog 46 #[.agg #[.int .i64 x.pl,.int .i64 x.id,.int .i64 x.card,.int .i64 x.trg,.slice t.A x.tgs.length t.c],.bool q] w fun e w' => e = .returned (.bool (itOk q x)) ∧ Below w.heap.size w w':=by
 have hal:∀ cs,Below w.heap.size w (w.alloc (.cells cs 55)):=fun cs => (Below.refl _ _).alloc (Nat.le_refl _) _
 have HAL:=Lib.hid hal
 have HAT:Hid (∀ W,Below w.heap.size w W → Calls Tryz.prog 78 #[.slice t.A x.tgs.length t.c,.func (.func 79) #[] #[]] W fun e w' => e = .returned (.bool (!x.tgs.all tgOk)) ∧ Below W.heap.size W w'):=Lib.hid fun W hb => anyT_any t.A _ t.c x.tgs W (hx.below hb) hc
 clear hal hc
 obtain ⟨p,i,c,r,ts⟩:=x
 obtain ⟨tA,tc⟩:=t
 simp only at *
 obtain ⟨v,hv⟩:∃ v,itOk q ⟨p,i,c,r,ts⟩ = v:=⟨_,rfl⟩
 rw [hv]
 unfold itOk at hv
 simp only at hv
 obtain ⟨n,hn⟩:∃ n,ts.length = n:=⟨_,rfl⟩
 obtain ⟨d,hd⟩:∃ d,ts.all tgOk = d:=⟨_,rfl⟩
 rw [hn] at hv hx HAT ⊢
 rw [hd] at hv HAT
 clear hn hd
 obtain ⟨b1,h1⟩:∃ b,inR p 0 1 = b:=⟨_,rfl⟩
 obtain ⟨b2,h2⟩:∃ b,inR i 1 500 = b:=⟨_,rfl⟩
 obtain ⟨b3,h3⟩:∃ b,inR c 0 399 = b:=⟨_,rfl⟩
 obtain ⟨b4,h4⟩:∃ b,inR r (-1) 1 = b:=⟨_,rfl⟩
 rw [h1,h2,h3,h4] at hv
 have H1:=Lib.hid h1
 have H2:=Lib.hid h2
 have H3:=Lib.hid h3
 have H4:=Lib.hid h4
 clear h1 h2 h3 h4
 have hcs:b1 = false ∨ (b1 = true ∧ b2 = false) ∨ (b1 = true ∧ b2 = true ∧ b3 = false) ∨ (b1 = true ∧ b2 = true ∧ b3 = true ∧ b4 = false) ∨ (b1 = true ∧ b2 = true ∧ b3 = true ∧ b4 = true):=by
  cases b1 <;> cases b2 <;> cases b3 <;> cases b4 <;> simp
 rcases hcs with rfl | ⟨rfl,rfl⟩ | ⟨rfl,rfl,rfl⟩ | ⟨rfl,rfl,rfl,rfl⟩ | ⟨rfl,rfl,rfl,rfl⟩
 ·have HD:Hid (v = false):=Lib.hid (by rw [← hv];simp)
  clear hv
  clear hx
  go_enter Tryz.func46,Tryz.ntmps46
  go_wp2_with (first
   | (go_at_call 42;refine (within_any _ _ _ _).mono ?_;(first | rw [H1.out] | rw [H2.out] | rw [H3.out] | rw [H4.out]);rintro e w1 ⟨rfl,rfl⟩)
   | fail)
  go_ret
  exact ⟨by rw [HD.out];rfl,HAL.out _⟩
 ·have HD:Hid (v = false):=Lib.hid (by rw [← hv];simp)
  clear hv
  clear hx
  go_enter Tryz.func46,Tryz.ntmps46
  go_wp2_with (first
   | (go_at_call 42;refine (within_any _ _ _ _).mono ?_;(first | rw [H1.out] | rw [H2.out] | rw [H3.out] | rw [H4.out]);rintro e w1 ⟨rfl,rfl⟩)
   | fail)
  go_ret
  exact ⟨by rw [HD.out];rfl,HAL.out _⟩
 ·have HD:Hid (v = false):=Lib.hid (by rw [← hv];simp)
  clear hv
  clear hx
  go_enter Tryz.func46,Tryz.ntmps46
  go_wp2_with (first
   | (go_at_call 42;refine (within_any _ _ _ _).mono ?_;(first | rw [H1.out] | rw [H2.out] | rw [H3.out] | rw [H4.out]);rintro e w1 ⟨rfl,rfl⟩)
   | fail)
  go_ret
  exact ⟨by rw [HD.out];rfl,HAL.out _⟩
 ·have HD:Hid (v = false):=Lib.hid (by rw [← hv];simp)
  clear hv
  clear hx
  go_enter Tryz.func46,Tryz.ntmps46
  go_wp2_with (first
   | (go_at_call 42;refine (within_any _ _ _ _).mono ?_;(first | rw [H1.out] | rw [H2.out] | rw [H3.out] | rw [H4.out]);rintro e w1 ⟨rfl,rfl⟩)
   | fail)
  go_ret
  exact ⟨by rw [HD.out];rfl,HAL.out _⟩
 ·simp only [Bool.true_and] at hv
  by_cases g1:4 < n
  ·have g1':(4:Int) < n:=by omega
   have HD:Hid (v = false):=Lib.hid (by rw [← hv,decide_eq_false (show ¬ n ≤ 4 by omega)];rfl)
   clear hv g1
   clear hx
   go_enter Tryz.func46,Tryz.ntmps46
   go_wp2_with (first
    | (go_at_call 42;refine (within_any _ _ _ _).mono ?_;(first | rw [H1.out] | rw [H2.out] | rw [H3.out] | rw [H4.out]);rintro e w1 ⟨rfl,rfl⟩)
    | fail)
   go_ret
   exact ⟨by rw [HD.out];rfl,HAL.out _⟩
  ·have g1':decide ((4:Int) < n) = false:=decide_eq_false (by omega)
   rw [decide_eq_true (show n ≤ 4 by omega),Bool.true_and] at hv
   by_cases g2:0 ≤ r
   ·have g2':decide (0 ≤ r) = true:=decide_eq_true g2
    have g2n:decide (r < 0) = false:=decide_eq_false (by omega)
    by_cases g3:0 < n
    ·have g3':(0:Int) < n:=by omega
     have HD:Hid (v = false):=Lib.hid (by rw [← hv,g2',decide_eq_true g3];rfl)
     clear hv g1 g2' g2n g3
     clear hx
     go_enter Tryz.func46,Tryz.ntmps46
     go_wp2_with (first
      | (go_at_call 42;refine (within_any _ _ _ _).mono ?_;(first | rw [H1.out] | rw [H2.out] | rw [H3.out] | rw [H4.out]);rintro e w1 ⟨rfl,rfl⟩)
      | fail)
     go_ret
     exact ⟨by rw [HD.out];rfl,HAL.out _⟩
    ·have HD:Hid (v = d):=Lib.hid (by rw [← hv,g2n,decide_eq_false g3];simp)
     obtain rfl:n = 0:=by omega
     clear hv g1 g2' g3 g1'
     cases q
     ·clear hx
      go_enter Tryz.func46,Tryz.ntmps46
      go_wp2_with (first
       | (go_at_call 42;refine (within_any _ _ _ _).mono ?_;(first | rw [H1.out] | rw [H2.out] | rw [H3.out] | rw [H4.out]);rintro e w1 ⟨rfl,rfl⟩)
       | (go_at_call 78;refine (HAT.out _ (HAL.out _)).mono ?_;rintro e w1 ⟨rfl,hb1⟩)
       | fail)
      go_ret
      exact ⟨by rw [HD.out];simp,below_call (HAL.out _) hb1 (HAL.out _).size⟩
     ·clear hx
      go_enter Tryz.func46,Tryz.ntmps46
      go_wp2_with (first
       | (go_at_call 42;refine (within_any _ _ _ _).mono ?_;(first | rw [H1.out] | rw [H2.out] | rw [H3.out] | rw [H4.out]);rintro e w1 ⟨rfl,rfl⟩)
       | (go_at_call 78;refine (HAT.out _ (HAL.out _)).mono ?_;rintro e w1 ⟨rfl,hb1⟩)
       | fail)
      go_ret
      exact ⟨by rw [HD.out];simp,below_call (HAL.out _) hb1 (HAL.out _).size⟩
   ·have g2':decide (0 ≤ r) = false:=decide_eq_false g2
    have g2n:r < 0:=by omega
    cases q
    ·have HD:Hid (v = d):=Lib.hid (by rw [← hv,g2'];simp)
     clear hv g1 g2
     clear hx
     go_enter Tryz.func46,Tryz.ntmps46
     go_wp2_with (first
      | (go_at_call 42;refine (within_any _ _ _ _).mono ?_;(first | rw [H1.out] | rw [H2.out] | rw [H3.out] | rw [H4.out]);rintro e w1 ⟨rfl,rfl⟩)
      | (go_at_call 78;refine (HAT.out _ (HAL.out _)).mono ?_;rintro e w1 ⟨rfl,hb1⟩)
      | fail)
     go_ret
     exact ⟨by rw [HD.out];simp,below_call (HAL.out _) hb1 (HAL.out _).size⟩
    ·have HD:Hid (v = false):=Lib.hid (by rw [← hv,g2',decide_eq_true g2n];simp)
     clear hv g1 g2
     clear hx
     go_enter Tryz.func46,Tryz.ntmps46
     go_wp2_with (first
      | (go_at_call 42;refine (within_any _ _ _ _).mono ?_;(first | rw [H1.out] | rw [H2.out] | rw [H3.out] | rw [H4.out]);rintro e w1 ⟨rfl,rfl⟩)
      | fail)
     go_ret
     exact ⟨by rw [HD.out];rfl,HAL.out _⟩

def AskX (q:Bool) (fn:FuncId):Prop:=∀ (x:It) (t:Sl) (w:World),Reads w 2 t.A x.tgs.length (tcs x.tgs) → x.tgs.length ≤ 9223372036854775807 →
 Calls Tryz.prog fn #[.agg #[.int .i64 x.pl,.int .i64 x.id,.int .i64 x.card,.int .i64 x.trg,.slice t.A x.tgs.length t.c]] w fun e w' => e = .returned (.bool (!itOk q x)) ∧ Below w.heap.size w w'
theorem ask_f:AskX false 45:=by
 intro x t w hx hc
 have hal:∀ cs,Below w.heap.size w (w.alloc (.cells cs 55)):=fun cs => (Below.refl _ _).alloc (Nat.le_refl _) _
 have HAL:=Lib.hid hal
 have HT:=Lib.hid (fun W (hb:Below w.heap.size w W) => fine_any false x t W (hx.below hb) hc)
 clear hal hx hc
 generalize itOk false x = d at *
 generalize x.tgs.length = n at *
 go_enter Tryz.func45,Tryz.ntmps45
 go_wp2_with fail
 refine (HT.out _ (HAL.out _)).mono ?_
 rintro e w1 ⟨rfl,hb1⟩
 go_wp2
 go_ret
 exact ⟨rfl,below_call (HAL.out _) hb1 (HAL.out _).size⟩
theorem ask_t:AskX true 47:=by
 intro x t w hx hc
 have hal:∀ cs,Below w.heap.size w (w.alloc (.cells cs 55)):=fun cs => (Below.refl _ _).alloc (Nat.le_refl _) _
 have HAL:=Lib.hid hal
 have HT:=Lib.hid (fun W (hb:Below w.heap.size w W) => fine_any true x t W (hx.below hb) hc)
 clear hal hx hc
 generalize itOk true x = d at *
 generalize x.tgs.length = n at *
 go_enter Tryz.func47,Tryz.ntmps47
 go_wp2_with fail
 refine (HT.out _ (HAL.out _)).mono ?_
 rintro e w1 ⟨rfl,hb1⟩
 go_wp2
 go_ret
 exact ⟨rfl,below_call (HAL.out _) hb1 (HAL.out _).size⟩
set_option maxHeartbeats 800000 in
theorem idxX_f (s:Sl) (n:Nat) (l:List It) (ts:List Sl) (w:World) (hx:IsR w s l ts) (hn:l.length = n) (hlen:n ≤ 9223372036854775807) :
  Calls Tryz.prog 77 #[.slice s.A n s.c,.func (.func 45) #[] #[]] w (IdxEnd (!l.all (itOk false)) w):=by
 have HX:=Lib.hid hx
 have HL:=Lib.hid hn
 obtain ⟨sA,sc⟩:=s
 simp only
 clear hx hn
 go_enter Tryz.func77,Tryz.ntmps77
 go_wp2
 go_loopw [8] (fun i W => ∃ k:Nat,k ≤ n ∧ i = .int .i64 k ∧ Hid (∀ j x,j < k → l[j]? = some x → itOk false x = true) ∧ Below w.heap.size w W) (fun i _ => n - (intOf i).toNat)
 case atStart => exact ⟨0,Nat.zero_le _,rfl,Lib.hid (fun q x h => absurd h (by omega)),Below.refl _ _⟩
 case round =>
  obtain ⟨k,hk,rfl,HE,hB⟩:=hrel
  have hz:=hB.size
  by_cases hlt:k < n
  ·obtain ⟨x,hx⟩:=get_of (l:=l) (k:=k) (by rw [HL.out];exact hlt)
   obtain ⟨t,hzp,-,htr,hto⟩:=(HX.out.below hB).at_ hx
   have hrow:=(HX.out.below hB).row
   rw [HL.out] at hrow
   obtain ⟨ad,hA,-,c0,c1,c2,c3,c4⟩:=item_at hrow hzp hlt
   simp only at hA
   subst hA
   have hlt':(k:Int) < n:=by omega
   have HG:=Lib.hid hx
   have HN:=Lib.hid (fun W (hb:Below wr.heap.size wr W) => ask_f x t W (htr.below hb) (by have:=hto;unfold Sl.ok at this;omega))
   clear hx hzp htr hto hrow
   obtain ⟨xp,xi,xc,xt,xs⟩:=x
   obtain ⟨tA,tc⟩:=t
   simp only at c0 c1 c2 c3 c4 HN
   obtain ⟨m,hm⟩:∃ m,xs.length = m:=⟨_,rfl⟩
   rw [hm] at c4 HN
   clear hm
   go_wp2_with fail
   refine (HN.out _ (Below.refl _ _)).mono ?_
   rintro e w1 ⟨rfl,hb1⟩
   cases hok:itOk false ⟨xp,xi,xc,xt,xs⟩ with
   | true =>
    have HEE:Hid (∀ j x,j < k + 1 → l[j]? = some x → itOk false x = true):=Lib.hid (fun j x hq hg => by
     rcases Nat.lt_or_ge j k with h | h
     ·exact HE.out j x h hg
     ·obtain rfl:j = k:=by omega
      rw [HG.out] at hg
      rw [← Option.some.inj hg]
      exact hok)
    clear hok
    go_wp2
    go_roundw
    case rel => exact ⟨k + 1,hlt,by go_num,HEE,below_call hB hb1 hz⟩
    case measure => simp [intOf];omega
   | false =>
    have HA:=Lib.hid (none_of HG.out hok)
    clear hok
    go_wp2
    go_ret
    exact ⟨k,rfl,by rw [HA.out];simp,below_call hB hb1 hz⟩
  ·obtain rfl:k = n:=by omega
   have HA:=Lib.hid (all_of HL.out HE.out)
   go_wp2
   go_ret
   exact ⟨-1,rfl,by rw [HA.out];rfl,hB⟩
theorem anyX_f (s:Sl) (n:Nat) (l:List It) (ts:List Sl) (w:World) (hx:IsR w s l ts) (hn:l.length = n) (hlen:n ≤ 9223372036854775807) :
  Calls Tryz.prog 44 #[.slice s.A n s.c,.func (.func 45) #[] #[]] w fun e w' => e = .returned (.bool (!l.all (itOk false))) ∧ Below w.heap.size w w':=by
 have HC:=Lib.hid (idxX_f s n l ts w hx hn hlen)
 clear hx hn
 go_enter Tryz.func44,Tryz.ntmps44
 go_wp2_with fail
 refine HC.out.mono ?_
 rintro e w1 ⟨i,rfl,hib,hb1⟩
 go_wp2
 go_ret
 exact ⟨rfl,hb1⟩

set_option maxHeartbeats 800000 in
theorem idxX_t (s:Sl) (n:Nat) (l:List It) (ts:List Sl) (w:World) (hx:IsR w s l ts) (hn:l.length = n) (hlen:n ≤ 9223372036854775807) :
  Calls Tryz.prog 77 #[.slice s.A n s.c,.func (.func 47) #[] #[]] w (IdxEnd (!l.all (itOk true)) w):=by
 have HX:=Lib.hid hx
 have HL:=Lib.hid hn
 obtain ⟨sA,sc⟩:=s
 simp only
 clear hx hn
 go_enter Tryz.func77,Tryz.ntmps77
 go_wp2
 go_loopw [8] (fun i W => ∃ k:Nat,k ≤ n ∧ i = .int .i64 k ∧ Hid (∀ j x,j < k → l[j]? = some x → itOk true x = true) ∧ Below w.heap.size w W) (fun i _ => n - (intOf i).toNat)
 case atStart => exact ⟨0,Nat.zero_le _,rfl,Lib.hid (fun q x h => absurd h (by omega)),Below.refl _ _⟩
 case round =>
  obtain ⟨k,hk,rfl,HE,hB⟩:=hrel
  have hz:=hB.size
  by_cases hlt:k < n
  ·obtain ⟨x,hx⟩:=get_of (l:=l) (k:=k) (by rw [HL.out];exact hlt)
   obtain ⟨t,hzp,-,htr,hto⟩:=(HX.out.below hB).at_ hx
   have hrow:=(HX.out.below hB).row
   rw [HL.out] at hrow
   obtain ⟨ad,hA,-,c0,c1,c2,c3,c4⟩:=item_at hrow hzp hlt
   simp only at hA
   subst hA
   have hlt':(k:Int) < n:=by omega
   have HG:=Lib.hid hx
   have HN:=Lib.hid (fun W (hb:Below wr.heap.size wr W) => ask_t x t W (htr.below hb) (by have:=hto;unfold Sl.ok at this;omega))
   clear hx hzp htr hto hrow
   obtain ⟨xp,xi,xc,xt,xs⟩:=x
   obtain ⟨tA,tc⟩:=t
   simp only at c0 c1 c2 c3 c4 HN
   obtain ⟨m,hm⟩:∃ m,xs.length = m:=⟨_,rfl⟩
   rw [hm] at c4 HN
   clear hm
   go_wp2_with fail
   refine (HN.out _ (Below.refl _ _)).mono ?_
   rintro e w1 ⟨rfl,hb1⟩
   cases hok:itOk true ⟨xp,xi,xc,xt,xs⟩ with
   | true =>
    have HEE:Hid (∀ j x,j < k + 1 → l[j]? = some x → itOk true x = true):=Lib.hid (fun j x hq hg => by
     rcases Nat.lt_or_ge j k with h | h
     ·exact HE.out j x h hg
     ·obtain rfl:j = k:=by omega
      rw [HG.out] at hg
      rw [← Option.some.inj hg]
      exact hok)
    clear hok
    go_wp2
    go_roundw
    case rel => exact ⟨k + 1,hlt,by go_num,HEE,below_call hB hb1 hz⟩
    case measure => simp [intOf];omega
   | false =>
    have HA:=Lib.hid (none_of HG.out hok)
    clear hok
    go_wp2
    go_ret
    exact ⟨k,rfl,by rw [HA.out];simp,below_call hB hb1 hz⟩
  ·obtain rfl:k = n:=by omega
   have HA:=Lib.hid (all_of HL.out HE.out)
   go_wp2
   go_ret
   exact ⟨-1,rfl,by rw [HA.out];rfl,hB⟩
theorem anyX_t (s:Sl) (n:Nat) (l:List It) (ts:List Sl) (w:World) (hx:IsR w s l ts) (hn:l.length = n) (hlen:n ≤ 9223372036854775807) :
  Calls Tryz.prog 44 #[.slice s.A n s.c,.func (.func 47) #[] #[]] w fun e w' => e = .returned (.bool (!l.all (itOk true))) ∧ Below w.heap.size w w':=by
 have HC:=Lib.hid (idxX_t s n l ts w hx hn hlen)
 clear hx hn
 go_enter Tryz.func44,Tryz.ntmps44
 go_wp2_with fail
 refine HC.out.mono ?_
 rintro e w1 ⟨i,rfl,hib,hb1⟩
 go_wp2
 go_ret
 exact ⟨rfl,hb1⟩

/-! ### Mana -/
def manaOk (a b c d m:Int):Bool:=[a,b,c,d].all fun x => inR x 0 m
theorem mana_idx (a b c d:Int) {k:Nat} (hk:k < 4) (w:World):(Instr.index 24 (.agg #[.int .i64 a,.int .i64 b,.int .i64 c,.int .i64 d]) (.int .i64 k)).run Tryz.prog w = .ok (.int .i64 (ith [a,b,c,d] k)) w:=by
 rcases (show k = 0 ∨ k = 1 ∨ k = 2 ∨ k = 3 by omega) with rfl | rfl | rfl | rfl <;> simp [Instr.index,run_underlying Tryz.underlying24,asIntOf,go_sem,ith]
set_option maxHeartbeats 800000 in
theorem mana_in (a b c d m:Int) (w:World):Calls Tryz.prog 76 #[.agg #[.int .i64 a,.int .i64 b,.int .i64 c,.int .i64 d],.int .i64 m] w fun e w' => e = .returned (.bool (manaOk a b c d m)) ∧ Below w.heap.size w w':=by
 have hal:∀ cs,Below w.heap.size w (w.alloc (.cells cs 24)):=fun cs => (Below.refl _ _).alloc (Nat.le_refl _) _
 have HAL:=Lib.hid hal
 clear hal
 obtain ⟨l,hl⟩:∃ l,[a,b,c,d] = l:=⟨_,rfl⟩
 have HM:Hid (manaOk a b c d m = l.all fun x => inR x 0 m):=Lib.hid (by rw [← hl];rfl)
 have HLN:Hid (l.length = 4):=Lib.hid (by rw [← hl];rfl)
 have HI:Hid (∀ k:Nat,k < 4 → ∀ w,(Instr.index 24 (.agg #[.int .i64 a,.int .i64 b,.int .i64 c,.int .i64 d]) (.int .i64 k)).run Tryz.prog w = .ok (.int .i64 (ith l k)) w):=Lib.hid (fun k hk w => by rw [← hl];exact mana_idx a b c d hk w)
 clear hl
 go_enter Tryz.func76,Tryz.ntmps76
 go_wp2
 go_loopw [8] (fun i W => ∃ k:Nat,k ≤ 4 ∧ i = .int .i64 k ∧ Hid (∀ j x,j < k → l[j]? = some x → inR x 0 m = true) ∧ Hid (Below w.heap.size w W)) (fun i _ => 4 - (intOf i).toNat)
 case atStart => exact ⟨0,Nat.zero_le _,rfl,Lib.hid (fun q x h => absurd h (by omega)),Lib.hid (HAL.out _)⟩
 case round =>
  obtain ⟨k,hk,rfl,HE,HB⟩:=hrel
  by_cases hlt:k < 4
  ·have hlt':(k:Int) < 4:=by omega
   have hix:=HI.out k hlt
   have hg:=ith_get (xs:=l) (k:=k) (by rw [HLN.out];exact hlt)
   generalize ith l k = x at *
   have HG:=Lib.hid hg
   clear hg
   by_cases h1:x < 0
   ·have HA:Hid (l.all (fun x => inR x 0 m) = false):=Lib.hid (none_of HG.out (by unfold inR;rw [decide_eq_false (show ¬ 0 ≤ x by omega)];rfl))
    go_wp2
    go_ret
    exact ⟨by rw [HM.out,HA.out];rfl,HB.out⟩
   ·have h1':decide (x < 0) = false:=decide_eq_false h1
    by_cases h2:m < x
    ·have HA:Hid (l.all (fun x => inR x 0 m) = false):=Lib.hid (none_of HG.out (by unfold inR;rw [decide_eq_false (show ¬ x ≤ m by omega),Bool.and_false]))
     clear h1
     go_wp2
     go_ret
     exact ⟨by rw [HM.out,HA.out];rfl,HB.out⟩
    ·have h2':decide (m < x) = false:=decide_eq_false h2
     have HEE:Hid (∀ j x,j < k + 1 → l[j]? = some x → inR x 0 m = true):=Lib.hid (fun j y hq hg => by
      rcases Nat.lt_or_ge j k with h | h
      ·exact HE.out j y h hg
      ·obtain rfl:j = k:=by omega
       rw [HG.out] at hg
       rw [← Option.some.inj hg]
       unfold inR
       rw [decide_eq_true (show 0 ≤ x by omega),decide_eq_true (show x ≤ m by omega)];rfl)
     clear h1 h2
     go_wp2
     go_roundw
     case rel => exact ⟨k + 1,hlt,by go_num,HEE,HB⟩
     case measure => simp [intOf];omega
  ·obtain rfl:k = 4:=by omega
   have HA:=Lib.hid (all_of HLN.out HE.out)
   go_wp2
   go_ret
   exact ⟨by rw [HM.out,HA.out];rfl,HB.out⟩
theorem mana_any (a b c d:Int) (w:World):Calls Tryz.prog 43 #[.agg #[.int .i64 a,.int .i64 b,.int .i64 c,.int .i64 d]] w fun e w' => e = .returned (.bool (manaOk a b c d 99)) ∧ Below w.heap.size w w':=by
 have hal:∀ cs,Below w.heap.size w (w.alloc (.cells cs 24)):=fun cs => (Below.refl _ _).alloc (Nat.le_refl _) _
 have HAL:=Lib.hid hal
 have HC:=Lib.hid (fun W => mana_in a b c d 99 W)
 clear hal
 generalize manaOk a b c d 99 = v at *
 go_enter Tryz.func43,Tryz.ntmps43
 go_wp2_with fail
 refine (HC.out _).mono ?_
 rintro e w1 ⟨rfl,hb1⟩
 go_wp2
 go_ret
 exact ⟨rfl,below_call (HAL.out _) hb1 (HAL.out _).size⟩

/-! ### Objects -/
theorem six_idx (a b c d e f:Int) {k:Nat} (hk:k < 6) (w:World):(Instr.index 170 (.agg #[.int .i64 a,.int .i64 b,.int .i64 c,.int .i64 d,.int .i64 e,.int .i64 f]) (.int .i64 k)).run Tryz.prog w = .ok (.int .i64 (ith [a,b,c,d,e,f] k)) w:=by
 rcases (show k = 0 ∨ k = 1 ∨ k = 2 ∨ k = 3 ∨ k = 4 ∨ k = 5 by omega) with rfl | rfl | rfl | rfl | rfl | rfl <;> simp [Instr.index,run_underlying Tryz.underlying170,asIntOf,go_sem,ith]
theorem obOk_six (o:Ob):obOk o = ([o.pow,o.tou,o.dam,o.cnt,o.pp,o.pt].all (fun x => inR x 0 99) && ((decide (o.card = -1) || (decide (o.pow = 0) && decide (o.tou = 0))) && inR o.id 1 500 && inR o.card (-1) 399 && inR o.own 0 1)):=by
 unfold obOk
 simp [Bool.and_assoc]
set_option maxRecDepth 100000 in
set_option maxHeartbeats 1600000 in
theorem obj_any (o:Ob) (w:World):Calls Tryz.prog 82 #[.agg o.cells.toArray] w fun e w' => e = .returned (.bool (obOk o)) ∧ Below w.heap.size w w':=by
 have hal:∀ cs,Below w.heap.size w (w.alloc (.cells cs 46)):=fun cs => (Below.refl _ _).alloc (Nat.le_refl _) _
 have HAL:=Lib.hid hal
 clear hal
 have HOK:=Lib.hid (obOk_six o)
 obtain ⟨id,card,own,o3,o4,o5,o6,o7,o8,o9,o10,o11⟩:=o
 simp only [Ob.cells] at *
 obtain ⟨l,hl⟩:∃ l,[o3,o4,o5,o6,o7,o8] = l:=⟨_,rfl⟩
 rw [hl] at HOK
 have HLN:Hid (l.length = 6):=Lib.hid (by rw [← hl];rfl)
 have HI:Hid (∀ k:Nat,k < 6 → ∀ w,(Instr.index 170 (.agg #[.int .i64 o3,.int .i64 o4,.int .i64 o5,.int .i64 o6,.int .i64 o7,.int .i64 o8]) (.int .i64 k)).run Tryz.prog w = .ok (.int .i64 (ith l k)) w):=Lib.hid (fun k hk w => by rw [← hl];exact six_idx o3 o4 o5 o6 o7 o8 hk w)
 clear hl
 obtain ⟨v,hv⟩:∃ v,obOk ⟨id,card,own,o3,o4,o5,o6,o7,o8,o9,o10,o11⟩ = v:=⟨_,rfl⟩
 rw [hv] at HOK ⊢
 clear hv
 have hblk:=Lib.hid (Blk.mk_ w 46 #[.int .i64 id,.int .i64 card,.int .i64 own,.int .i64 o3,.int .i64 o4,.int .i64 o5,.int .i64 o6,.int .i64 o7,.int .i64 o8,.bool o9,.bool o10,.bool o11] _ rfl)
 go_enter Tryz.func82,Tryz.ntmps82
 go_wp2
 go_loopw [19] (fun i W => ∃ k:Nat,k ≤ 6 ∧ i = .int .i64 k ∧ Hid (∀ j x,j < k → l[j]? = some x → inR x 0 99 = true) ∧ Hid (Blk W w.heap.size 46 #[.int .i64 id,.int .i64 card,.int .i64 own,.int .i64 o3,.int .i64 o4,.int .i64 o5,.int .i64 o6,.int .i64 o7,.int .i64 o8,.bool o9,.bool o10,.bool o11]) ∧ Hid (Below w.heap.size w W)) (fun i _ => 6 - (intOf i).toNat)
 case atStart => exact ⟨0,Nat.zero_le _,rfl,Lib.hid (fun q x h => absurd h (by omega)),hblk,Lib.hid (HAL.out _)⟩
 case round =>
  obtain ⟨k,hk,rfl,HE,HBL,HB⟩:=hrel
  clear hblk
  by_cases hlt:k < 6
  ·have hlt':(k:Int) < 6:=by omega
   have hix:=HI.out k hlt
   have hg:=ith_get (xs:=l) (k:=k) (by rw [HLN.out];exact hlt)
   generalize ith l k = x at *
   have HG:=Lib.hid hg
   clear hg
   by_cases h1:x < 0
   ·have HA:Hid (l.all (fun x => inR x 0 99) = false):=Lib.hid (none_of HG.out (by unfold inR;rw [decide_eq_false (show ¬ 0 ≤ x by omega)];rfl))
    go_wp2
    go_ret
    exact ⟨by rw [HOK.out,HA.out];rfl,HB.out⟩
   ·have h1':decide (x < 0) = false:=decide_eq_false h1
    by_cases h2:99 < x
    ·have HA:Hid (l.all (fun x => inR x 0 99) = false):=Lib.hid (none_of HG.out (by unfold inR;rw [decide_eq_false (show ¬ x ≤ 99 by omega),Bool.and_false]))
     clear h1
     go_wp2
     go_ret
     exact ⟨by rw [HOK.out,HA.out];rfl,HB.out⟩
    ·have h2':decide (99 < x) = false:=decide_eq_false h2
     have HEE:Hid (∀ j x,j < k + 1 → l[j]? = some x → inR x 0 99 = true):=Lib.hid (fun j y hq hg => by
      rcases Nat.lt_or_ge j k with h | h
      ·exact HE.out j y h hg
      ·obtain rfl:j = k:=by omega
       rw [HG.out] at hg
       rw [← Option.some.inj hg]
       unfold inR
       rw [decide_eq_true (show 0 ≤ x by omega),decide_eq_true (show x ≤ 99 by omega)];rfl)
     clear h1 h2
     go_wp2
     go_roundw
     case rel => exact ⟨k + 1,hlt,by go_num,HEE,HBL,HB⟩
     case measure => simp [intOf];omega
  ·obtain rfl:k = 6:=by omega
   have HA:=Lib.hid (all_of HLN.out HE.out)
   have c0:wr.cell? ⟨w.heap.size,0,none⟩ = some (.int .i64 id):=(HBL.out.at_ 0).trans rfl
   have c1:wr.cell? ⟨w.heap.size,1,none⟩ = some (.int .i64 card):=(HBL.out.at_ 1).trans rfl
   have c2:wr.cell? ⟨w.heap.size,2,none⟩ = some (.int .i64 own):=(HBL.out.at_ 2).trans rfl
   have c3:wr.cell? ⟨w.heap.size,3,none⟩ = some (.int .i64 o3):=(HBL.out.at_ 3).trans rfl
   have c4:wr.cell? ⟨w.heap.size,4,none⟩ = some (.int .i64 o4):=(HBL.out.at_ 4).trans rfl
   have hbl:=HBL.out.lt
   go_wp2
   all_goals go_ret
   all_goals refine ⟨?_,HB.out⟩
   all_goals
    rw [HOK.out,HA.out]
    refine congrArg (fun b => Ending.returned (Value.bool b)) ?_
    clear HOK HA HI HE HBL HB HLN HAL
    rw [Bool.eq_iff_iff]
    simp only [inR,Bool.and_eq_true,Bool.or_eq_true,decide_eq_true_eq,beq_iff_eq,Bool.true_and,Bool.false_eq_true,true_iff,false_iff]
    omega
end Go.Proofs.YtagpphelgghbpaaGreat
