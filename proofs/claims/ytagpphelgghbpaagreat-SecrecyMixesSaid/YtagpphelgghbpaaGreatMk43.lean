/-
  Texts: Rsb, Vob.
-/
import Derived.Test.YtagpphelgghbpaaGreatMk42
import Derived.Test.YtagpphelgghbpaaGreatMk37
set_option linter.unusedSimpArgs false
set_option linter.unusedVariables false
namespace Go.Proofs.YtagpphelgghbpaaGreat
open Go.RowKit

theorem one_zon (s:Se) (m:SeM):∀ u ∈ zonL s m,u.oneCell' = true:=by
 intro u hu
 simp only [zonL,Sl.v,List.mem_cons,List.not_mem_nil,or_false] at hu
 rcases hu with rfl | rfl | rfl | rfl <;> rfl
theorem zonL_at (s:Se) (m:SeM) {k:Nat} (hk:k < 4):(zonL s m).toArray[k]? = some (.slice (m.zm k).A (s.zl k).length (m.zm k).c):=by
 rcases (show k = 0 ∨ k = 1 ∨ k = 2 ∨ k = 3 by omega) with rfl | rfl | rfl | rfl <;> rfl
theorem zl_len {b:Bd} (h:BdSm b) {p k:Nat} (hp:p < 2) (hk:k < 4):((seN b p).zl k).length ≤ 500:=by
 rcases (show p = 0 ∨ p = 1 by omega) with rfl | rfl <;> rcases (show k = 0 ∨ k = 1 ∨ k = 2 ∨ k = 3 by omega) with rfl | rfl | rfl | rfl <;> first | exact h.s0.L | exact h.s0.H | exact h.s0.F | exact h.s0.G | exact h.s1.L | exact h.s1.H | exact h.s1.F | exact h.s1.G
theorem pool_eq (a b c d:Int) (w:World):(Op.equalIn 10000 24 (.agg #[.int .i64 a,.int .i64 b,.int .i64 c,.int .i64 d]) (.agg #[.int .i64 a,.int .i64 b,.int .i64 c,.int .i64 d])).run Tryz.prog w = .ok true w:=by
 have u3:=Tryz.underlying3
 have a3:=Tryz.isAgg3
 have z3:=Tryz.sizeOf3
 rw [show (10000:Nat) = 9999 + 1 from rfl,Op.equalIn]
 simp only [Sem.run_bind,run_underlying Tryz.underlying24,Result.andThen_ok]
 simp only [Std.Legacy.Range.forIn_eq_forIn_range',Std.Legacy.Range.size,Nat.sub_zero,Nat.add_sub_cancel,Nat.div_one,List.range'_succ,List.range'_zero,List.forIn_cons,List.forIn_nil]
 go_simp
set_option maxRecDepth 100000 in
set_option maxHeartbeats 6400000 in
theorem rbsame_any (b:Bd) (m m':BdM) (w:World) (hR:BdR w b m) (hR':BdR w b m') (hsm:BdSm b) :
  Calls Tryz.prog 13 #[.agg (b.cells m).toArray,.agg (b.cells m').toArray] w fun e w' => e = .returned (.bool true) ∧ Below w.heap.size w w':=by
 have HR:=Lib.hid hR
 have HR':=Lib.hid hR'
 have HSM:=Lib.hid hsm
 obtain ⟨ca,hca⟩:∃ z,(b.cells m).toArray = z:=⟨_,rfl⟩
 obtain ⟨cb,hcb⟩:∃ z,(b.cells m').toArray = z:=⟨_,rfl⟩
 have HCC:=Lib.hid (And.intro hca hcb)
 obtain ⟨⟨OA,Oc⟩,hmO⟩:∃ z,m.O = z:=⟨_,rfl⟩
 obtain ⟨⟨OA',Oc'⟩,hmO'⟩:∃ z,m'.O = z:=⟨_,rfl⟩
 obtain ⟨no,hno⟩:∃ z,b.objs.length = z:=⟨_,rfl⟩
 obtain ⟨⟨SA,Sc⟩,hmS⟩:∃ z,m.S = z:=⟨_,rfl⟩
 obtain ⟨⟨SA',Sc'⟩,hmS'⟩:∃ z,m'.S = z:=⟨_,rfl⟩
 obtain ⟨ns,hns⟩:∃ z,b.stk.length = z:=⟨_,rfl⟩
 obtain ⟨⟨QA,Qc⟩,hmQ⟩:∃ z,m.Q = z:=⟨_,rfl⟩
 obtain ⟨⟨QA',Qc'⟩,hmQ'⟩:∃ z,m'.Q = z:=⟨_,rfl⟩
 obtain ⟨nq,hnq⟩:∃ z,b.que.length = z:=⟨_,rfl⟩
 obtain ⟨⟨AA,Ac⟩,hmA⟩:∃ z,m.AT = z:=⟨_,rfl⟩
 obtain ⟨⟨AA',Ac'⟩,hmA'⟩:∃ z,m'.AT = z:=⟨_,rfl⟩
 obtain ⟨na,hna⟩:∃ z,b.att.length = z:=⟨_,rfl⟩
 obtain ⟨⟨KA,Kc⟩,hmK⟩:∃ z,m.BK = z:=⟨_,rfl⟩
 obtain ⟨⟨KA',Kc'⟩,hmK'⟩:∃ z,m'.BK = z:=⟨_,rfl⟩
 obtain ⟨nk,hnk⟩:∃ z,b.blk.length = z:=⟨_,rfl⟩
 obtain ⟨w1,hw1⟩:∃ z,(w.alloc (.cells ca 33)).alloc (.cells cb 33) = z:=⟨_,rfl⟩
 have HI1:Hid (Blk w1 w.heap.size 33 ca ∧ Blk w1 (w.heap.size + 1) 33 cb ∧ Below w.heap.size w w1):=Lib.hid (by rw [← hw1];exact ⟨(Blk.mk_ w _ _ _ rfl).alloc _,Blk.mk_ _ _ _ _ (by simp),((Below.refl _ _).alloc (Nat.le_refl _) _).alloc (by simp) _⟩)
 have HIT:Hid (∀ W,Below w.heap.size w W → Calls Tryz.prog 37 #[.slice SA ns Sc,.slice SA' ns Sc'] W (fun e w' => e = .returned (.bool true) ∧ Below W.heap.size W w')):=Lib.hid (fun W hb => by
  have h1:=(hR.below hb).S
  have h2:=(hR'.below hb).S
  rw [hmS] at h1
  rw [hmS'] at h2
  exact rsitems_any W ⟨SA,Sc⟩ ⟨SA',Sc'⟩ b.stk m.ST m'.ST ns h1 h2 hns (by rw [← hns];exact Nat.le_trans hsm.S (by decide)) (fun x hx => Nat.le_trans (hsm.ST x hx) (by decide)))
 have HIQ:Hid (∀ W,Below w.heap.size w W → Calls Tryz.prog 37 #[.slice QA nq Qc,.slice QA' nq Qc'] W (fun e w' => e = .returned (.bool true) ∧ Below W.heap.size W w')):=Lib.hid (fun W hb => by
  have h1:=(hR.below hb).Q
  have h2:=(hR'.below hb).Q
  rw [hmQ] at h1
  rw [hmQ'] at h2
  exact rsitems_any W ⟨QA,Qc⟩ ⟨QA',Qc'⟩ b.que m.QT m'.QT nq h1 h2 hnq (by rw [← hnq];exact Nat.le_trans hsm.Q (by decide)) (fun x hx => Nat.le_trans (hsm.QT x hx) (by decide)))
 have HIA:Hid (∀ W,Below w.heap.size w W → Calls Tryz.prog 17 #[.slice AA na Ac,.slice AA' na Ac'] W (fun e w' => e = .returned (.bool true) ∧ Below W.heap.size W w')):=Lib.hid (fun W hb => by
  have h1:=(hR.below hb).AT.row
  have h2:=(hR'.below hb).AT.row
  rw [hmA,hna] at h1
  rw [hmA',hna] at h2
  refine (rints_any AA AA' na Ac na Ac' b.att b.att W h1 h2 (by rw [← hna];exact Nat.le_trans hsm.AT (by decide))).mono ?_
  rintro e w' ⟨rfl,h⟩
  exact ⟨by rw [decide_eq_true rfl],h⟩)
 have HOO:Hid (∀ W,Below w.heap.size w W → Reads W 12 OA no (ocs b.objs) ∧ Reads W 12 OA' no (ocs b.objs) ∧ Reads W 2 KA nk (bcs b.blk) ∧ Reads W 2 KA' nk (bcs b.blk)):=Lib.hid (fun W hb => by
  have h1:=(hR.below hb).O
  have h2:=(hR'.below hb).O
  have h3:=(hR.below hb).BK
  have h4:=(hR'.below hb).BK
  rw [hmO,hno] at h1
  rw [hmO',hno] at h2
  rw [hmK,hnk] at h3
  rw [hmK',hnk] at h4
  exact ⟨h1,h2,h3,h4⟩)
 have HNN:=Lib.hid (And.intro hno hnk)
 have hno5:no ≤ 500:=by rw [← hno];exact hsm.O
 have hnk5:nk ≤ 500:=by rw [← hnk];exact hsm.BK
 have HEA:Hid (ca[0]? = some (.slice OA no Oc) ∧ ca[29]? = some (.slice SA ns Sc) ∧ ca[30]? = some (.slice QA nq Qc) ∧ ca[31]? = some (.slice AA na Ac) ∧ ca[32]? = some (.slice KA nk Kc) ∧ ca[33]? = some (.int .i64 b.turn) ∧ ca[34]? = some (.int .i64 b.actv) ∧ ca[35]? = some (.int .i64 b.phs) ∧ ca[36]? = some (.int .i64 b.hold) ∧ ca[37]? = some (.int .i64 b.pas)):=Lib.hid (by rw [← hca];exact ⟨by show some (m.O.v b.objs.length) = _;rw [hmO,hno];rfl,by show some (m.S.v b.stk.length) = _;rw [hmS,hns];rfl,by show some (m.Q.v b.que.length) = _;rw [hmQ,hnq];rfl,by show some (m.AT.v b.att.length) = _;rw [hmA,hna];rfl,by show some (m.BK.v b.blk.length) = _;rw [hmK,hnk];rfl,rfl,rfl,rfl,rfl,rfl⟩)
 have HEB:Hid (cb[0]? = some (.slice OA' no Oc') ∧ cb[29]? = some (.slice SA' ns Sc') ∧ cb[30]? = some (.slice QA' nq Qc') ∧ cb[31]? = some (.slice AA' na Ac') ∧ cb[32]? = some (.slice KA' nk Kc') ∧ cb[33]? = some (.int .i64 b.turn) ∧ cb[34]? = some (.int .i64 b.actv) ∧ cb[35]? = some (.int .i64 b.phs) ∧ cb[36]? = some (.int .i64 b.hold) ∧ cb[37]? = some (.int .i64 b.pas)):=Lib.hid (by rw [← hcb];exact ⟨by show some (m'.O.v b.objs.length) = _;rw [hmO',hno];rfl,by show some (m'.S.v b.stk.length) = _;rw [hmS',hns];rfl,by show some (m'.Q.v b.que.length) = _;rw [hmQ',hnq];rfl,by show some (m'.AT.v b.att.length) = _;rw [hmA',hna];rfl,by show some (m'.BK.v b.blk.length) = _;rw [hmK',hnk];rfl,rfl,rfl,rfl,rfl,rfl⟩)
 rw [hca,hcb]
 have xw1_0:w1.cell? ⟨w.heap.size,0,none⟩ = some (.slice OA no Oc):=(HI1.out.1.at_ 0).trans HEA.out.1
 have xw1_29:w1.cell? ⟨w.heap.size,29,none⟩ = some (.slice SA ns Sc):=(HI1.out.1.at_ 29).trans HEA.out.2.1
 have xw1_30:w1.cell? ⟨w.heap.size,30,none⟩ = some (.slice QA nq Qc):=(HI1.out.1.at_ 30).trans HEA.out.2.2.1
 have xw1_31:w1.cell? ⟨w.heap.size,31,none⟩ = some (.slice AA na Ac):=(HI1.out.1.at_ 31).trans HEA.out.2.2.2.1
 have xw1_32:w1.cell? ⟨w.heap.size,32,none⟩ = some (.slice KA nk Kc):=(HI1.out.1.at_ 32).trans HEA.out.2.2.2.2.1
 have xw1_33:w1.cell? ⟨w.heap.size,33,none⟩ = some (.int .i64 b.turn):=(HI1.out.1.at_ 33).trans HEA.out.2.2.2.2.2.1
 have xw1_34:w1.cell? ⟨w.heap.size,34,none⟩ = some (.int .i64 b.actv):=(HI1.out.1.at_ 34).trans HEA.out.2.2.2.2.2.2.1
 have xw1_35:w1.cell? ⟨w.heap.size,35,none⟩ = some (.int .i64 b.phs):=(HI1.out.1.at_ 35).trans HEA.out.2.2.2.2.2.2.2.1
 have xw1_36:w1.cell? ⟨w.heap.size,36,none⟩ = some (.int .i64 b.hold):=(HI1.out.1.at_ 36).trans HEA.out.2.2.2.2.2.2.2.2.1
 have xw1_37:w1.cell? ⟨w.heap.size,37,none⟩ = some (.int .i64 b.pas):=(HI1.out.1.at_ 37).trans HEA.out.2.2.2.2.2.2.2.2.2
 have yw1_0:w1.cell? ⟨w.heap.size + 1,0,none⟩ = some (.slice OA' no Oc'):=(HI1.out.2.1.at_ 0).trans HEB.out.1
 have yw1_29:w1.cell? ⟨w.heap.size + 1,29,none⟩ = some (.slice SA' ns Sc'):=(HI1.out.2.1.at_ 29).trans HEB.out.2.1
 have yw1_30:w1.cell? ⟨w.heap.size + 1,30,none⟩ = some (.slice QA' nq Qc'):=(HI1.out.2.1.at_ 30).trans HEB.out.2.2.1
 have yw1_31:w1.cell? ⟨w.heap.size + 1,31,none⟩ = some (.slice AA' na Ac'):=(HI1.out.2.1.at_ 31).trans HEB.out.2.2.2.1
 have yw1_32:w1.cell? ⟨w.heap.size + 1,32,none⟩ = some (.slice KA' nk Kc'):=(HI1.out.2.1.at_ 32).trans HEB.out.2.2.2.2.1
 have yw1_33:w1.cell? ⟨w.heap.size + 1,33,none⟩ = some (.int .i64 b.turn):=(HI1.out.2.1.at_ 33).trans HEB.out.2.2.2.2.2.1
 have yw1_34:w1.cell? ⟨w.heap.size + 1,34,none⟩ = some (.int .i64 b.actv):=(HI1.out.2.1.at_ 34).trans HEB.out.2.2.2.2.2.2.1
 have yw1_35:w1.cell? ⟨w.heap.size + 1,35,none⟩ = some (.int .i64 b.phs):=(HI1.out.2.1.at_ 35).trans HEB.out.2.2.2.2.2.2.2.1
 have yw1_36:w1.cell? ⟨w.heap.size + 1,36,none⟩ = some (.int .i64 b.hold):=(HI1.out.2.1.at_ 36).trans HEB.out.2.2.2.2.2.2.2.2.1
 have yw1_37:w1.cell? ⟨w.heap.size + 1,37,none⟩ = some (.int .i64 b.pas):=(HI1.out.2.1.at_ 37).trans HEB.out.2.2.2.2.2.2.2.2.2
 clear hR hR' hsm hca hcb hmO hmO' hno hmS hmS' hns hmQ hmQ' hnq hmA hmA' hna hmK hmK' hnk
 go_enter Tryz.func13,Tryz.ntmps13
 go_wp2_with fail
 refine (HIT.out w1 HI1.out.2.2).mono ?_
 rintro e w2 ⟨rfl,hb2⟩
 have HI2:Hid (Blk w2 w.heap.size 33 ca ∧ Blk w2 (w.heap.size + 1) 33 cb ∧ Below w.heap.size w w2):=Lib.hid ⟨HI1.out.1.call hb2,HI1.out.2.1.call hb2,below_call HI1.out.2.2 hb2 HI1.out.2.2.size⟩
 clear hb2 xw1_0 xw1_29 xw1_30 xw1_31 xw1_32 xw1_33 xw1_34 xw1_35 xw1_36 xw1_37 yw1_0 yw1_29 yw1_30 yw1_31 yw1_32 yw1_33 yw1_34 yw1_35 yw1_36 yw1_37 HI1
 have xw2_0:w2.cell? ⟨w.heap.size,0,none⟩ = some (.slice OA no Oc):=(HI2.out.1.at_ 0).trans HEA.out.1
 have xw2_29:w2.cell? ⟨w.heap.size,29,none⟩ = some (.slice SA ns Sc):=(HI2.out.1.at_ 29).trans HEA.out.2.1
 have xw2_30:w2.cell? ⟨w.heap.size,30,none⟩ = some (.slice QA nq Qc):=(HI2.out.1.at_ 30).trans HEA.out.2.2.1
 have xw2_31:w2.cell? ⟨w.heap.size,31,none⟩ = some (.slice AA na Ac):=(HI2.out.1.at_ 31).trans HEA.out.2.2.2.1
 have xw2_32:w2.cell? ⟨w.heap.size,32,none⟩ = some (.slice KA nk Kc):=(HI2.out.1.at_ 32).trans HEA.out.2.2.2.2.1
 have xw2_33:w2.cell? ⟨w.heap.size,33,none⟩ = some (.int .i64 b.turn):=(HI2.out.1.at_ 33).trans HEA.out.2.2.2.2.2.1
 have xw2_34:w2.cell? ⟨w.heap.size,34,none⟩ = some (.int .i64 b.actv):=(HI2.out.1.at_ 34).trans HEA.out.2.2.2.2.2.2.1
 have xw2_35:w2.cell? ⟨w.heap.size,35,none⟩ = some (.int .i64 b.phs):=(HI2.out.1.at_ 35).trans HEA.out.2.2.2.2.2.2.2.1
 have xw2_36:w2.cell? ⟨w.heap.size,36,none⟩ = some (.int .i64 b.hold):=(HI2.out.1.at_ 36).trans HEA.out.2.2.2.2.2.2.2.2.1
 have xw2_37:w2.cell? ⟨w.heap.size,37,none⟩ = some (.int .i64 b.pas):=(HI2.out.1.at_ 37).trans HEA.out.2.2.2.2.2.2.2.2.2
 have yw2_0:w2.cell? ⟨w.heap.size + 1,0,none⟩ = some (.slice OA' no Oc'):=(HI2.out.2.1.at_ 0).trans HEB.out.1
 have yw2_29:w2.cell? ⟨w.heap.size + 1,29,none⟩ = some (.slice SA' ns Sc'):=(HI2.out.2.1.at_ 29).trans HEB.out.2.1
 have yw2_30:w2.cell? ⟨w.heap.size + 1,30,none⟩ = some (.slice QA' nq Qc'):=(HI2.out.2.1.at_ 30).trans HEB.out.2.2.1
 have yw2_31:w2.cell? ⟨w.heap.size + 1,31,none⟩ = some (.slice AA' na Ac'):=(HI2.out.2.1.at_ 31).trans HEB.out.2.2.2.1
 have yw2_32:w2.cell? ⟨w.heap.size + 1,32,none⟩ = some (.slice KA' nk Kc'):=(HI2.out.2.1.at_ 32).trans HEB.out.2.2.2.2.1
 have yw2_33:w2.cell? ⟨w.heap.size + 1,33,none⟩ = some (.int .i64 b.turn):=(HI2.out.2.1.at_ 33).trans HEB.out.2.2.2.2.2.1
 have yw2_34:w2.cell? ⟨w.heap.size + 1,34,none⟩ = some (.int .i64 b.actv):=(HI2.out.2.1.at_ 34).trans HEB.out.2.2.2.2.2.2.1
 have yw2_35:w2.cell? ⟨w.heap.size + 1,35,none⟩ = some (.int .i64 b.phs):=(HI2.out.2.1.at_ 35).trans HEB.out.2.2.2.2.2.2.2.1
 have yw2_36:w2.cell? ⟨w.heap.size + 1,36,none⟩ = some (.int .i64 b.hold):=(HI2.out.2.1.at_ 36).trans HEB.out.2.2.2.2.2.2.2.2.1
 have yw2_37:w2.cell? ⟨w.heap.size + 1,37,none⟩ = some (.int .i64 b.pas):=(HI2.out.2.1.at_ 37).trans HEB.out.2.2.2.2.2.2.2.2.2
 clear hw1
 go_wp2_with fail
 refine (HIQ.out w2 HI2.out.2.2).mono ?_
 rintro e w3 ⟨rfl,hb3⟩
 have HI3:Hid (Blk w3 w.heap.size 33 ca ∧ Blk w3 (w.heap.size + 1) 33 cb ∧ Below w.heap.size w w3):=Lib.hid ⟨HI2.out.1.call hb3,HI2.out.2.1.call hb3,below_call HI2.out.2.2 hb3 HI2.out.2.2.size⟩
 clear hb3 xw2_0 xw2_29 xw2_30 xw2_31 xw2_32 xw2_33 xw2_34 xw2_35 xw2_36 xw2_37 yw2_0 yw2_29 yw2_30 yw2_31 yw2_32 yw2_33 yw2_34 yw2_35 yw2_36 yw2_37 HI2
 have xw3_0:w3.cell? ⟨w.heap.size,0,none⟩ = some (.slice OA no Oc):=(HI3.out.1.at_ 0).trans HEA.out.1
 have xw3_29:w3.cell? ⟨w.heap.size,29,none⟩ = some (.slice SA ns Sc):=(HI3.out.1.at_ 29).trans HEA.out.2.1
 have xw3_30:w3.cell? ⟨w.heap.size,30,none⟩ = some (.slice QA nq Qc):=(HI3.out.1.at_ 30).trans HEA.out.2.2.1
 have xw3_31:w3.cell? ⟨w.heap.size,31,none⟩ = some (.slice AA na Ac):=(HI3.out.1.at_ 31).trans HEA.out.2.2.2.1
 have xw3_32:w3.cell? ⟨w.heap.size,32,none⟩ = some (.slice KA nk Kc):=(HI3.out.1.at_ 32).trans HEA.out.2.2.2.2.1
 have xw3_33:w3.cell? ⟨w.heap.size,33,none⟩ = some (.int .i64 b.turn):=(HI3.out.1.at_ 33).trans HEA.out.2.2.2.2.2.1
 have xw3_34:w3.cell? ⟨w.heap.size,34,none⟩ = some (.int .i64 b.actv):=(HI3.out.1.at_ 34).trans HEA.out.2.2.2.2.2.2.1
 have xw3_35:w3.cell? ⟨w.heap.size,35,none⟩ = some (.int .i64 b.phs):=(HI3.out.1.at_ 35).trans HEA.out.2.2.2.2.2.2.2.1
 have xw3_36:w3.cell? ⟨w.heap.size,36,none⟩ = some (.int .i64 b.hold):=(HI3.out.1.at_ 36).trans HEA.out.2.2.2.2.2.2.2.2.1
 have xw3_37:w3.cell? ⟨w.heap.size,37,none⟩ = some (.int .i64 b.pas):=(HI3.out.1.at_ 37).trans HEA.out.2.2.2.2.2.2.2.2.2
 have yw3_0:w3.cell? ⟨w.heap.size + 1,0,none⟩ = some (.slice OA' no Oc'):=(HI3.out.2.1.at_ 0).trans HEB.out.1
 have yw3_29:w3.cell? ⟨w.heap.size + 1,29,none⟩ = some (.slice SA' ns Sc'):=(HI3.out.2.1.at_ 29).trans HEB.out.2.1
 have yw3_30:w3.cell? ⟨w.heap.size + 1,30,none⟩ = some (.slice QA' nq Qc'):=(HI3.out.2.1.at_ 30).trans HEB.out.2.2.1
 have yw3_31:w3.cell? ⟨w.heap.size + 1,31,none⟩ = some (.slice AA' na Ac'):=(HI3.out.2.1.at_ 31).trans HEB.out.2.2.2.1
 have yw3_32:w3.cell? ⟨w.heap.size + 1,32,none⟩ = some (.slice KA' nk Kc'):=(HI3.out.2.1.at_ 32).trans HEB.out.2.2.2.2.1
 have yw3_33:w3.cell? ⟨w.heap.size + 1,33,none⟩ = some (.int .i64 b.turn):=(HI3.out.2.1.at_ 33).trans HEB.out.2.2.2.2.2.1
 have yw3_34:w3.cell? ⟨w.heap.size + 1,34,none⟩ = some (.int .i64 b.actv):=(HI3.out.2.1.at_ 34).trans HEB.out.2.2.2.2.2.2.1
 have yw3_35:w3.cell? ⟨w.heap.size + 1,35,none⟩ = some (.int .i64 b.phs):=(HI3.out.2.1.at_ 35).trans HEB.out.2.2.2.2.2.2.2.1
 have yw3_36:w3.cell? ⟨w.heap.size + 1,36,none⟩ = some (.int .i64 b.hold):=(HI3.out.2.1.at_ 36).trans HEB.out.2.2.2.2.2.2.2.2.1
 have yw3_37:w3.cell? ⟨w.heap.size + 1,37,none⟩ = some (.int .i64 b.pas):=(HI3.out.2.1.at_ 37).trans HEB.out.2.2.2.2.2.2.2.2.2
 go_wp2_with fail
 refine (HIA.out w3 HI3.out.2.2).mono ?_
 rintro e w4 ⟨rfl,hb4⟩
 have HI4:Hid (Blk w4 w.heap.size 33 ca ∧ Blk w4 (w.heap.size + 1) 33 cb ∧ Below w.heap.size w w4):=Lib.hid ⟨HI3.out.1.call hb4,HI3.out.2.1.call hb4,below_call HI3.out.2.2 hb4 HI3.out.2.2.size⟩
 clear hb4 xw3_0 xw3_29 xw3_30 xw3_31 xw3_32 xw3_33 xw3_34 xw3_35 xw3_36 xw3_37 yw3_0 yw3_29 yw3_30 yw3_31 yw3_32 yw3_33 yw3_34 yw3_35 yw3_36 yw3_37 HI3
 have xw4_0:w4.cell? ⟨w.heap.size,0,none⟩ = some (.slice OA no Oc):=(HI4.out.1.at_ 0).trans HEA.out.1
 have xw4_29:w4.cell? ⟨w.heap.size,29,none⟩ = some (.slice SA ns Sc):=(HI4.out.1.at_ 29).trans HEA.out.2.1
 have xw4_30:w4.cell? ⟨w.heap.size,30,none⟩ = some (.slice QA nq Qc):=(HI4.out.1.at_ 30).trans HEA.out.2.2.1
 have xw4_31:w4.cell? ⟨w.heap.size,31,none⟩ = some (.slice AA na Ac):=(HI4.out.1.at_ 31).trans HEA.out.2.2.2.1
 have xw4_32:w4.cell? ⟨w.heap.size,32,none⟩ = some (.slice KA nk Kc):=(HI4.out.1.at_ 32).trans HEA.out.2.2.2.2.1
 have xw4_33:w4.cell? ⟨w.heap.size,33,none⟩ = some (.int .i64 b.turn):=(HI4.out.1.at_ 33).trans HEA.out.2.2.2.2.2.1
 have xw4_34:w4.cell? ⟨w.heap.size,34,none⟩ = some (.int .i64 b.actv):=(HI4.out.1.at_ 34).trans HEA.out.2.2.2.2.2.2.1
 have xw4_35:w4.cell? ⟨w.heap.size,35,none⟩ = some (.int .i64 b.phs):=(HI4.out.1.at_ 35).trans HEA.out.2.2.2.2.2.2.2.1
 have xw4_36:w4.cell? ⟨w.heap.size,36,none⟩ = some (.int .i64 b.hold):=(HI4.out.1.at_ 36).trans HEA.out.2.2.2.2.2.2.2.2.1
 have xw4_37:w4.cell? ⟨w.heap.size,37,none⟩ = some (.int .i64 b.pas):=(HI4.out.1.at_ 37).trans HEA.out.2.2.2.2.2.2.2.2.2
 have yw4_0:w4.cell? ⟨w.heap.size + 1,0,none⟩ = some (.slice OA' no Oc'):=(HI4.out.2.1.at_ 0).trans HEB.out.1
 have yw4_29:w4.cell? ⟨w.heap.size + 1,29,none⟩ = some (.slice SA' ns Sc'):=(HI4.out.2.1.at_ 29).trans HEB.out.2.1
 have yw4_30:w4.cell? ⟨w.heap.size + 1,30,none⟩ = some (.slice QA' nq Qc'):=(HI4.out.2.1.at_ 30).trans HEB.out.2.2.1
 have yw4_31:w4.cell? ⟨w.heap.size + 1,31,none⟩ = some (.slice AA' na Ac'):=(HI4.out.2.1.at_ 31).trans HEB.out.2.2.2.1
 have yw4_32:w4.cell? ⟨w.heap.size + 1,32,none⟩ = some (.slice KA' nk Kc'):=(HI4.out.2.1.at_ 32).trans HEB.out.2.2.2.2.1
 have yw4_33:w4.cell? ⟨w.heap.size + 1,33,none⟩ = some (.int .i64 b.turn):=(HI4.out.2.1.at_ 33).trans HEB.out.2.2.2.2.2.1
 have yw4_34:w4.cell? ⟨w.heap.size + 1,34,none⟩ = some (.int .i64 b.actv):=(HI4.out.2.1.at_ 34).trans HEB.out.2.2.2.2.2.2.1
 have yw4_35:w4.cell? ⟨w.heap.size + 1,35,none⟩ = some (.int .i64 b.phs):=(HI4.out.2.1.at_ 35).trans HEB.out.2.2.2.2.2.2.2.1
 have yw4_36:w4.cell? ⟨w.heap.size + 1,36,none⟩ = some (.int .i64 b.hold):=(HI4.out.2.1.at_ 36).trans HEB.out.2.2.2.2.2.2.2.2.1
 have yw4_37:w4.cell? ⟨w.heap.size + 1,37,none⟩ = some (.int .i64 b.pas):=(HI4.out.2.1.at_ 37).trans HEB.out.2.2.2.2.2.2.2.2.2
 go_wp2_with fail
 clear xw4_0 xw4_29 xw4_30 xw4_31 xw4_32 xw4_33 xw4_34 xw4_35 xw4_36 xw4_37 yw4_0 yw4_29 yw4_30 yw4_31 yw4_32 yw4_33 yw4_34 yw4_35 yw4_36 yw4_37
 go_loopw [5] (fun i W => ∃ k:Nat,k ≤ no ∧ i = .int .i64 k ∧ Hid (Blk W w.heap.size 33 ca ∧ Blk W (w.heap.size + 1) 33 cb ∧ Below w.heap.size w W)) (fun i _ => no - (intOf i).toNat)
 case atStart => exact ⟨0,Nat.zero_le _,rfl,HI4⟩
 case round =>
  obtain ⟨k,hk,rfl,HI⟩:=hrel
  clear HI4
  have a0:wr.cell? ⟨w.heap.size,0,none⟩ = some (.slice OA no Oc):=(HI.out.1.at_ 0).trans HEA.out.1
  have b0:wr.cell? ⟨w.heap.size + 1,0,none⟩ = some (.slice OA' no Oc'):=(HI.out.2.1.at_ 0).trans HEB.out.1
  by_cases hkn:k < no
  ·have hkn':(k:Int) < no:=by omega
   obtain ⟨o,ho⟩:=get_of (l:=b.objs) (k:=k) (by rw [HNN.out.1];exact hkn)
   obtain ⟨ad,rfl,-,c0,c1,c2,c3,c4,c5,c6,c7,c8,c9,c10,c11⟩:=obj_at (HOO.out wr HI.out.2.2).1 ho hkn
   obtain ⟨ad',rfl,-,d0,d1,d2,d3,d4,d5,d6,d7,d8,d9,d10,d11⟩:=obj_at (HOO.out wr HI.out.2.2).2.1 ho hkn
   clear ho
   go_wp2_with fail
   go_quiet (fail)
   go_wp2_with fail
   go_roundw
   case rel => exact ⟨k + 1,hkn,by go_num,Lib.hid ⟨HI.out.1.call (below_drewN (Below.refl _ _) _),HI.out.2.1.call (below_drewN (Below.refl _ _) _),below_drewN HI.out.2.2 _⟩⟩
   case measure => simp [intOf];omega
  ·have hkd:decide ((k:Int) < no) = false:=decide_eq_false (by omega)
   have HI5:=Lib.hid HI.out
   clear hk
   go_wp2_with fail
   clear a0 b0 hkd hkn HI
   go_loopw [6] (fun i W => ∃ k:Nat,k ≤ nk ∧ i = .int .i64 k ∧ Hid (Blk W w.heap.size 33 ca ∧ Blk W (w.heap.size + 1) 33 cb ∧ Below w.heap.size w W)) (fun i _ => nk - (intOf i).toNat)
   case atStart => exact ⟨0,Nat.zero_le _,rfl,HI5⟩
   case round =>
    obtain ⟨k,hk,rfl,HI⟩:=hrel
    clear HI5
    have a0:wr.cell? ⟨w.heap.size,32,none⟩ = some (.slice KA nk Kc):=(HI.out.1.at_ 32).trans HEA.out.2.2.2.2.1
    have b0:wr.cell? ⟨w.heap.size + 1,32,none⟩ = some (.slice KA' nk Kc'):=(HI.out.2.1.at_ 32).trans HEB.out.2.2.2.2.1
    by_cases hkn:k < nk
    ·have hkn':(k:Int) < nk:=by omega
     obtain ⟨x,hx⟩:=get_of (l:=b.blk) (k:=k) (by rw [HNN.out.2];exact hkn)
     obtain ⟨ad,rfl,-,c0,c1⟩:=blk_at (HOO.out wr HI.out.2.2).2.2.1 hx hkn
     obtain ⟨ad',rfl,-,d0,d1⟩:=blk_at (HOO.out wr HI.out.2.2).2.2.2 hx hkn
     clear hx
     go_wp2_with fail
     go_quiet (fail)
     go_wp2_with fail
     go_roundw
     case rel => exact ⟨k + 1,hkn,by go_num,Lib.hid ⟨HI.out.1.call (below_drewN (Below.refl _ _) _),HI.out.2.1.call (below_drewN (Below.refl _ _) _),below_drewN HI.out.2.2 _⟩⟩
     case measure => simp [intOf];omega
    ·have hkd:decide ((k:Int) < nk) = false:=decide_eq_false (by omega)
     have HI6:=Lib.hid HI.out
     clear hk
     go_wp2_with fail
     clear a0 b0 hkd hkn HI
     go_loopw [7] (fun i W => ∃ p:Nat,p ≤ 2 ∧ i = .int .i64 p ∧ Hid (Blk W w.heap.size 33 ca ∧ Blk W (w.heap.size + 1) 33 cb ∧ Below w.heap.size w W)) (fun i _ => 2 - (intOf i).toNat)
     case atStart => exact ⟨0,Nat.zero_le _,rfl,HI6⟩
     case round =>
      obtain ⟨p,hp,rfl,HI⟩:=hrel
      clear HI6
      by_cases hp2:p < 2
      ·have hp2':(p:Int) < 2:=by omega
       have HP2:=Lib.hid hp2
       obtain ⟨s,hs⟩:∃ z,seN b p = z:=⟨_,rfl⟩
       have HSE:=Lib.hid hs
       have HSA:Hid (∀ W',Blk W' w.heap.size 33 ca → (Instr.loadAt 27 (.pointer (some ⟨w.heap.size,1 + p * 14,none⟩))).run Tryz.prog W' = .ok (.agg (s.cells (smN m p)).toArray) W'):=Lib.hid (fun W' h => by rw [← HCC.out.1] at h;rw [← hs];exact seat_load h hp2)
       have HSB:Hid (∀ W',Blk W' (w.heap.size + 1) 33 cb → (Instr.loadAt 27 (.pointer (some ⟨w.heap.size + 1,1 + p * 14,none⟩))).run Tryz.prog W' = .ok (.agg (s.cells (smN m' p)).toArray) W'):=Lib.hid (fun W' h => by rw [← HCC.out.2] at h;rw [← hs];exact seat_load h hp2)
       have HZA:Hid (∀ k,k < 4 → ∀ W,Below w.heap.size w W → Calls Tryz.prog 17 #[.slice ((smN m p).zm k).A (s.zl k).length ((smN m p).zm k).c,.slice ((smN m' p).zm k).A (s.zl k).length ((smN m' p).zm k).c] W (fun e w' => e = .returned (.bool true) ∧ Below W.heap.size W w')):=Lib.hid (fun k hk W hb => by
        have h1:=((seR_n (HR.out.below hb) hp2).zl hk).row
        have h2:=((seR_n (HR'.out.below hb) hp2).zl hk).row
        have h3:=zl_len HSM.out hp2 hk
        rw [hs] at h1 h2 h3
        refine (rints_any _ _ _ ((smN m p).zm k).c _ ((smN m' p).zm k).c (s.zl k) (s.zl k) W h1 h2 (Nat.le_trans h3 (by decide))).mono ?_
        rintro e w' ⟨rfl,h⟩
        exact ⟨by rw [decide_eq_true rfl],h⟩)
       clear hs hp hp2
       go_wp2_with fail
       refine rsa_r16 wr w.heap.size (w.heap.size + 1) p ca cb (s.cells (smN m p)) (s.cells (smN m' p)) HI.out.1 HI.out.2.1 rfl rfl (one_se _ _) (one_se _ _) hp2' HSA.out HSB.out _ _ _ _ _ _ _ _ _ _ _ _ _ _ _ _ _ _ _ _ _ _ _ _ _ _ _ _ _ _ _ _ _ _ _ _ _ _ _ _ _ _ _ _ _ _ _ _ _ _ _ _ _ _ _ _ _ _ _ _ _ _ _ _ _ _ _ _ _ _ _ _ _ _ _ _ _ _ _ _ _ _ _ _ _ _ _ _ _ _ _ _ _ _ _ _ _ _ _ _ _ _ _ _ _ _ _ _ _ _ _ _ _ _ _ _ _ _ _ _ _ _ _ _ _ _ _ _ _ _ _ _ _ _ _ _ _ _ _ _ _ _ _ _ _ _ _ _ _ _ _ _ _ _ _ _ _ _ _ _ _ _ _ _ _ _ _ _ _ _ _ _ _ _ _ _ _ _ _ _ _ _ _ _ _ _ _ _ _ _ _ _ _ _ _ _ _ ?_ ?_
       ·exact fun d _ _ _ _ h => by cases d <;> exact h
       intro v128 v129 v130 v131 v132 v133 v134 v135 p8 p9 v2 h2
       have HV2:Hid (Blk v2 p8 27 (s.cells (smN m p)).toArray ∧ Blk v2 p9 27 (s.cells (smN m' p)).toArray ∧ Blk v2 w.heap.size 33 ca ∧ Blk v2 (w.heap.size + 1) 33 cb ∧ Below w.heap.size w v2):=Lib.hid ⟨h2.1,h2.2.1,HI.out.1.call h2.2.2,HI.out.2.1.call h2.2.2,below_call HI.out.2.2 h2.2.2 HI.out.2.2.size⟩
       have e0:v2.cell? ⟨p8,0,none⟩ = some (.int .i64 s.life):=(HV2.out.1.at_ 0).trans rfl
       have e1:v2.cell? ⟨p8,1,none⟩ = some (.int .i64 s.p0):=(HV2.out.1.at_ 1).trans rfl
       have e2:v2.cell? ⟨p8,2,none⟩ = some (.int .i64 s.p1):=(HV2.out.1.at_ 2).trans rfl
       have e3:v2.cell? ⟨p8,3,none⟩ = some (.int .i64 s.p2):=(HV2.out.1.at_ 3).trans rfl
       have e4:v2.cell? ⟨p8,4,none⟩ = some (.int .i64 s.p3):=(HV2.out.1.at_ 4).trans rfl
       have e9:v2.cell? ⟨p8,9,none⟩ = some (.bool s.emp):=(HV2.out.1.at_ 9).trans rfl
       have e10:v2.cell? ⟨p8,10,none⟩ = some (.bool s.ply):=(HV2.out.1.at_ 10).trans rfl
       have e11:v2.cell? ⟨p8,11,none⟩ = some (.bool s.kpt):=(HV2.out.1.at_ 11).trans rfl
       have e12:v2.cell? ⟨p8,12,none⟩ = some (.int .i64 s.mul):=(HV2.out.1.at_ 12).trans rfl
       have e13:v2.cell? ⟨p8,13,none⟩ = some (.int .i64 s.act):=(HV2.out.1.at_ 13).trans rfl
       have f0:v2.cell? ⟨p9,0,none⟩ = some (.int .i64 s.life):=(HV2.out.2.1.at_ 0).trans rfl
       have f1:v2.cell? ⟨p9,1,none⟩ = some (.int .i64 s.p0):=(HV2.out.2.1.at_ 1).trans rfl
       have f2:v2.cell? ⟨p9,2,none⟩ = some (.int .i64 s.p1):=(HV2.out.2.1.at_ 2).trans rfl
       have f3:v2.cell? ⟨p9,3,none⟩ = some (.int .i64 s.p2):=(HV2.out.2.1.at_ 3).trans rfl
       have f4:v2.cell? ⟨p9,4,none⟩ = some (.int .i64 s.p3):=(HV2.out.2.1.at_ 4).trans rfl
       have f9:v2.cell? ⟨p9,9,none⟩ = some (.bool s.emp):=(HV2.out.2.1.at_ 9).trans rfl
       have f10:v2.cell? ⟨p9,10,none⟩ = some (.bool s.ply):=(HV2.out.2.1.at_ 10).trans rfl
       have f11:v2.cell? ⟨p9,11,none⟩ = some (.bool s.kpt):=(HV2.out.2.1.at_ 11).trans rfl
       have f12:v2.cell? ⟨p9,12,none⟩ = some (.int .i64 s.mul):=(HV2.out.2.1.at_ 12).trans rfl
       have f13:v2.cell? ⟨p9,13,none⟩ = some (.int .i64 s.act):=(HV2.out.2.1.at_ 13).trans rfl
       have hpool:=fun W => pool_eq s.p0 s.p1 s.p2 s.p3 W
       clear h2 HI
       go_wp2_with fail
       clear hpool e0 e1 e2 e3 e4 e9 e10 e11 e12 e13 f0 f1 f2 f3 f4 f9 f10 f11 f12 f13
       refine rsa_r19 v2 p8 p9 (s.cells (smN m p)) (s.cells (smN m' p)) (zonL s (smN m p)) (zonL s (smN m' p)) HV2.out.1 HV2.out.2.1 rfl rfl ⟨rfl,one_zon _ _⟩ ⟨rfl,one_zon _ _⟩ (fun W' => by rw [← zonV_eq];exact zones_any s (smN m p) W') (fun W' => by rw [← zonV_eq];exact zones_any s (smN m' p) W') _ _ _ _ _ _ _ _ _ _ _ _ _ _ _ _ _ _ _ _ _ _ _ _ _ _ _ _ _ _ _ _ _ _ _ _ _ _ _ _ _ _ _ _ _ _ _ _ _ _ _ _ _ _ _ _ _ _ _ _ _ _ _ _ _ _ _ _ _ _ _ _ _ _ _ _ _ _ _ _ _ _ _ _ _ _ _ _ _ _ _ _ _ _ _ _ _ _ _ _ _ _ _ _ _ _ _ _ _ _ _ _ _ _ _ _ _ _ _ _ _ _ _ _ _ _ _ _ _ _ _ _ _ _ _ _ _ _ _ _ _ _ _ _ _ _ _ _ _ _ _ _ _ _ _ _ _ _ _ _ _ _ _ _ _ _ _ _ _ _ _ _ _ _ _ _ _ _ _ _ _ _ _ _ _ _ _ _ _ _ _ _ _ _ _ _ _ _ ?_ ?_
       ·exact fun d _ _ _ _ h => by cases d <;> exact h
       intro v183 v184 v185 v186 pA pB v3 h3
       have HV3:Hid (Blk v3 pA 85 (zonL s (smN m p)).toArray ∧ Blk v3 pB 85 (zonL s (smN m' p)).toArray ∧ Blk v3 w.heap.size 33 ca ∧ Blk v3 (w.heap.size + 1) 33 cb ∧ Below w.heap.size w v3):=Lib.hid ⟨h3.1,h3.2.1,HV2.out.2.2.1.call h3.2.2,HV2.out.2.2.2.1.call h3.2.2,below_call HV2.out.2.2.2.2 h3.2.2 HV2.out.2.2.2.2.size⟩
       clear h3
       go_wp2_with fail
       go_loopw [12] (fun i W => ∃ k:Nat,k ≤ 4 ∧ i = .int .i64 k ∧ Hid (Below v3.heap.size v3 W)) (fun i _ => 4 - (intOf i).toNat)
       case atStart => exact ⟨0,Nat.zero_le _,rfl,Lib.hid (Below.refl _ _)⟩
       case round =>
        obtain ⟨k,hk,rfl,HK⟩:=hrel
        by_cases hk4:k < 4
        ·have hk4':(k:Int) < 4:=by omega
         have HK4:=Lib.hid hk4
         obtain ⟨nz,hnz⟩:∃ z,(s.zl k).length = z:=⟨_,rfl⟩
         have HZK:=Lib.hid (HZA.out k hk4)
         have HCK:Hid (∀ W',Below wr.heap.size wr W' → W'.cell? ⟨pA,k,none⟩ = some (.slice ((smN m p).zm k).A nz ((smN m p).zm k).c) ∧ W'.cell? ⟨pB,k,none⟩ = some (.slice ((smN m' p).zm k).A nz ((smN m' p).zm k).c)):=Lib.hid (fun W' hb => by
          have hb3:=below_call HK.out hb HK.out.size
          have h1:=((HV3.out.1.call hb3).at_ k).trans (zonL_at s (smN m p) hk4)
          have h2:=((HV3.out.2.1.call hb3).at_ k).trans (zonL_at s (smN m' p) hk4)
          rw [hnz] at h1 h2
          exact ⟨h1,h2⟩)
         rw [hnz] at HZK
         clear hnz hk hk4
         go_wp2_with fail
         refine rsa_r23 wr pA pB k nz ((smN m p).zm k).c ((smN m' p).zm k).c ((smN m p).zm k).A ((smN m' p).zm k).A hk4' HCK.out (fun W' hb => HZK.out W' (below_call HV3.out.2.2.2.2 (below_call HK.out hb HK.out.size) HV3.out.2.2.2.2.size)) _ _ _ _ _ _ _ _ _ _ _ _ _ _ _ _ _ _ _ _ _ _ _ _ _ _ _ _ _ _ _ _ _ _ _ _ _ _ _ _ _ _ _ _ _ _ _ _ _ _ _ _ _ _ _ _ _ _ _ _ _ _ _ _ _ _ _ _ _ _ _ _ _ _ _ _ _ _ _ _ _ _ _ _ _ _ _ _ _ _ _ _ _ _ _ _ _ _ _ _ _ _ _ _ _ _ _ _ _ _ _ _ _ _ _ _ _ _ _ _ _ _ _ _ _ _ _ _ _ _ _ _ _ _ _ _ _ _ _ _ _ _ _ _ _ _ _ _ _ _ _ _ _ _ _ _ _ _ _ _ _ _ _ _ _ _ _ _ _ _ _ _ _ _ _ _ _ _ _ _ _ _ _ _ _ _ _ _ _ _ _ _ _ _ _ _ _ ?_ ?_
         ·exact fun d _ _ _ _ h => by cases d <;> exact h
         intro v191 v192 v193 v194 v195 v196 v197 v4 h4
         have HK5:=Lib.hid (below_call HK.out h4 HK.out.size)
         clear h4
         go_wp2_with fail
         go_roundw
         case rel => exact ⟨k + 1,by have:=HK4.out;omega,by go_num,HK5⟩
         case measure => simp [intOf];have:=HK4.out;omega
        ·have hkd:decide ((k:Int) < 4) = false:=decide_eq_false (by omega)
         have HI9:Hid (Blk wr w.heap.size 33 ca ∧ Blk wr (w.heap.size + 1) 33 cb ∧ Below w.heap.size w wr):=Lib.hid ⟨HV3.out.2.2.1.call HK.out,HV3.out.2.2.2.1.call HK.out,below_call HV3.out.2.2.2.2 HK.out HV3.out.2.2.2.2.size⟩
         clear hk
         go_wp2_with fail
         go_roundw
         case rel => exact ⟨p + 1,by have:=HP2.out;omega,by go_num,HI9⟩
         case measure => simp [intOf];have:=HP2.out;omega
      ·have hpd:decide ((p:Int) < 2) = false:=decide_eq_false (by omega)
       clear hp
       go_wp2_with fail
       go_ret
       exact ⟨rfl,HI.out.2.2⟩

theorem player_no (p:Int) (h0:¬ p = 0) (h1:¬ p = 1) (w:World):Calls Tryz.prog 56 #[.int .i64 p] w fun e w' => e = .returned (.bool false) ∧ w = w':=by
 have e0:(p == 0) = false:=by simpa using h0
 have e1:(p == 1) = false:=by simpa using h1
 clear h0 h1
 go_enter Tryz.func56,Tryz.ntmps56
 go_wp2
 go_ret
 exact ⟨rfl,rfl⟩
end Go.Proofs.YtagpphelgghbpaaGreat
