/- Texts of this proof, laid together. -/
import Derived.Test.YtjhonjdhanlbkaaGreatX6REvalOwn
set_option linter.unusedVariables false
set_option linter.unusedSimpArgs false
/- EvalOwn. -/
namespace Go.Proofs.YtjhonjdhanlbkaaGreat.J
open Go Go.RowKit
set_option maxRecDepth 10000
set_option maxHeartbeats 4000000
def ScOwn (s : ScT) : AV → List Own → Prop := fun x o => ∃ k1 i1 p1 q1 k2 i2 p2 q2 k3 i3 p3 q3, x = .agg (s.st.raw k1 i1 ++ s.ev.raw k2 i2 ++ s.it.raw k3 i3) ∧ o = [p1, q1, p2, q2, p3, q3] ∧ VTr s.st k1 i1 p1 q1 ∧ VTr s.ev k2 i2 p2 q2 ∧ VTr s.it k3 i3 p3 q3
theorem runAV_fresh (r : V × Int × Int) : Fresh (runAV r) := .tup (FlL.cons (V.fresh _) (FlL.cons (.c _) (FlL.cons (.c _) .nil)))
theorem ScT.raw_le {F : List (Value × AV)} {s : ScT} {k1 i1 k2 i2 k3 i3 : Value} (h1 : (k1, AV.sl false false eStr (keysAV s.st.keys)) ∈ F) (g1 : (i1, AV.sl false false eV (V.css false s.st.items)) ∈ F) (h2 : (k2, AV.sl false false eStr (keysAV s.ev.keys)) ∈ F) (g2 : (i2, AV.sl false false eV (V.css false s.ev.items)) ∈ F) (h3 : (k3, AV.sl false false eStr (keysAV s.it.keys)) ∈ F) (g3 : (i3, AV.sl false false eV (V.css false s.it.items)) ∈ F) :
    Le F (.agg (s.st.raw k1 i1 ++ s.ev.raw k2 i2 ++ s.it.raw k3 i3)) (.agg s.cs) := by
  obtain ⟨⟨ka, ua, ta, va, ia⟩, ⟨kb, ub, tb, vb, ib⟩, ⟨kc, uc, tc, vc, ic⟩⟩ := s
  exact .aggL (.cons lr (.cons lr (.cons lr (.cons (.fact h1 (.refl _)) (.cons (.fact g1 (.refl _)) (.cons lr (.cons lr (.cons lr (.cons (.fact h2 (.refl _)) (.cons (.fact g2 (.refl _)) (.cons lr (.cons lr (.cons lr (.cons (.fact h3 (.refl _)) (.cons (.fact g3 (.refl _)) .nil)))))))))))))))
theorem of15_own {s : ScT} (hw : s.st.wf ∧ s.ev.wf ∧ s.it.wf) : AC Tryz.prog 10 [] [.agg s.cs] (RetR (ScOwn s)) := by
  obtain ⟨⟨ka, ua, ta, va, ia⟩, ⟨kb, ub, tb, vb, ib⟩, ⟨kc, uc, tc, vc, ic⟩⟩ := s
  obtain ⟨hw1, hw2, hw3⟩ := hw
  refine AC.of_J Tryz.func10 rfl Tryz.ntmps10 rfl fun w0 A0 => ?_
  refine Zs (JL.box_agg (.tmp rfl) rfl fun b1 => JL.alloc z36 rfl rfl fun b2 => Zn (J.seq (J.regionX mixed (Zf 0 [] rfl (fun _ => QW.field_ptr fo31_0 (.tmp rfl) rfl) (Zo 1 1 [3] rfl (fun _ ho_ => QW.load_box 1 ty29 (.tmp rfl) ho_ rfl rfl) (Zf 3 [] rfl (fun _ => QW.field_ptr fo31_1 (.tmp rfl) rfl) (Zo 4 1 [6] rfl (fun _ ho_ => QW.load_box 1 ty29 (.tmp rfl) ho_ rfl rfl) ?_)))))))
  refine Zf 6 [] rfl (fun _ => QW.field_ptr fo31_2 (.tmp rfl) rfl) (Zo 7 1 [9] rfl (fun _ ho_ => QW.load_box 1 ty29 (.tmp rfl) ho_ rfl rfl) (JX.one 2 [false, false, false, false, true, true] rfl (by kernel_rfl) (by kernel_rfl) rfl rfl (by kernel_rfl) rfl fun bs2_ pe_ ex_ => ?_))
  refine JL.conv (by (try simp only [vlF, bxF, tkM, lvM, Flt.val, Flt.bx, nx, nl, stepsO, valO, nthO, curO, mrg, AV.cellsOf, splice_zero, splice_succ, Nat.reduceAdd]); rfl) ?_
  refine JL.callRF [] gofn22 rfl Lent.nil (fun _ => (.cons (.tmp rfl) .nil)) (copyValue_ok (fr := false) (v := .mk ka ua ta va ia) Vc.self hw1) (.inl rfl) fun x5 o5 h5 => ?_
  obtain ⟨kv5, iv5, ok5, oi5, rfl, rfl, hV5⟩ := h5
  refine JL.nil ?_
  refine thenQ.n ⟨[_], _, rfl, rfl, rfl, rfl, rfl, Reown.mrgN 2 rfl rfl, ⟨rfl, rfl⟩, ⟨rfl, ⟨trivial, ⟨rfl, ⟨trivial, trivial⟩⟩⟩⟩, ?_⟩
  refine JX.conv (S' := [2, 1, 0]) rfl (by (try simp only [lvM]); rfl) (by (try simp only [vlF, bxF, tkM, lvM, Flt.val, Flt.bx, nx, nl, stepsO, valO, nthO, curO, mrg, AV.cellsOf, splice_zero, splice_succ, Nat.reduceAdd]); rfl) ?_
  refine JX.one 5 [false, false, true, true] rfl (by kernel_rfl) (by kernel_rfl) rfl rfl (by kernel_rfl) rfl fun bs5_ pe_ ex_ => ?_
  refine JL.conv (by (try simp only [vlF, bxF, tkM, lvM, Flt.val, Flt.bx, nx, nl, stepsO, valO, nthO, curO, mrg, AV.cellsOf, splice_zero, splice_succ, Nat.reduceAdd]); rfl) ?_
  refine JL.callRF [] gofn22 rfl Lent.nil (fun _ => (.cons (.tmp rfl) .nil)) (copyValue_ok (fr := false) (v := .mk kb ub tb vb ib) Vc.self hw2) (.inl rfl) fun x8 o8 h8 => ?_
  obtain ⟨kv8, iv8, ok8, oi8, rfl, rfl, hV8⟩ := h8
  refine JL.nil ?_
  refine thenQ.n ⟨[_], _, rfl, rfl, rfl, rfl, rfl, Reown.mrgN 4 rfl rfl, ⟨rfl, rfl⟩, ⟨rfl, ⟨trivial, trivial⟩⟩, ?_⟩
  refine JX.conv (S' := [5, 4, 3, 2, 1, 0]) rfl (by (try simp only [lvM]); rfl) (by (try simp only [vlF, bxF, tkM, lvM, Flt.val, Flt.bx, nx, nl, stepsO, valO, nthO, curO, mrg, AV.cellsOf, splice_zero, splice_succ, Nat.reduceAdd]); rfl) ?_
  refine JX.one 8 [true, true] rfl (by kernel_rfl) (by kernel_rfl) rfl rfl (by kernel_rfl) rfl fun bs8_ pe_ ex_ => ?_
  refine JL.conv (by (try simp only [vlF, bxF, tkM, lvM, Flt.val, Flt.bx, nx, nl, stepsO, valO, nthO, curO, mrg, AV.cellsOf, splice_zero, splice_succ, Nat.reduceAdd]); rfl) ?_
  refine JL.callRF [] gofn22 rfl Lent.nil (fun _ => (.cons (.tmp rfl) .nil)) (copyValue_ok (fr := false) (v := .mk kc uc tc vc ic) Vc.self hw3) (.inl rfl) fun x11 o11 h11 => ?_
  obtain ⟨kv11, iv11, ok11, oi11, rfl, rfl, hV11⟩ := h11
  refine JL.nil ?_
  refine thenQ.n ⟨[_], _, rfl, rfl, rfl, rfl, rfl, Reown.mrgN 6 rfl rfl, ⟨rfl, rfl⟩, trivial, ?_⟩
  refine JX.conv (S' := [8, 7, 6, 5, 4, 3, 2, 1, 0]) rfl (by (try simp only [lvM]); rfl) (by (try simp only [vlF, bxF, tkM, lvM, Flt.val, Flt.bx, nx, nl, stepsO, valO, nthO, curO, mrg, AV.cellsOf, splice_zero, splice_succ, Nat.reduceAdd]); rfl) ?_
  refine Zf 9 [5, 8, 11] rfl (fun _ => QW.build (idx := [0, 1, 2]) pl36 z36 rfl (.cons (.tmp rfl) (.cons (.tmp rfl) (.cons (.tmp rfl) .nil))) rfl rfl rfl rfl) (JX.one 10 [true] rfl (by kernel_rfl) (by kernel_rfl) rfl rfl (by kernel_rfl) rfl fun bs10_ pe_ ex_ => ?_)
  refine JL.conv (by (try simp only [vlF, bxF, tkM, lvM, Flt.val, Flt.bx, nx, nl, stepsO, valO, nthO, curO, mrg, AV.cellsOf, splice_zero, splice_succ, Nat.reduceAdd]); rfl) ?_
  refine JL.store_boxF 0 ty36 (.tmp rfl) rfl (.tmp rfl) rfl rfl rfl rfl (JL.nil ?_)
  refine thenQ.n ⟨[], _, rfl, rfl, rfl, rfl, rfl, Reown.tkN 8 rfl, trivial, trivial, ?_⟩
  refine JX.conv (S' := [10, 9, 8, 7, 6, 5, 4, 3, 2, 1, 0]) rfl (by (try simp only [lvM]); rfl) (by (try simp only [vlF, bxF, tkM, lvM, Flt.val, Flt.bx, nx, nl, stepsO, valO, nthO, curO, mrg, AV.cellsOf, splice_zero, splice_succ, Nat.reduceAdd]); rfl) ?_
  refine JX.fin (by kernel_rfl) (by kernel_rfl) fun bs_ => ?_
  refine QX.conv (by (try simp only [vlF, bxF, tkM, lvM, Flt.val, Flt.bx, nx, nl, stepsO, valO, nthO, curO, mrg, AV.cellsOf, splice_zero, splice_succ, Nat.reduceAdd]); rfl) ?_
  exact thenQ.n (J.ret (Zr [.k, .k, .p, .p, .p, .p, .p, .p] (RetEv.one rfl (REv.cell 0 ty36 rfl rfl rfl rfl lr)) rfl ⟨_, rfl, kv5, iv5, ok5, oi5, kv8, iv8, ok8, oi8, kv11, iv11, ok11, oi11, rfl, rfl, hV5, hV8, hV11⟩))
theorem evalOwn_ok {e : EX} {s : ScT} (hew : e.wf) (hw : s.st.wf ∧ s.ev.wf ∧ s.it.wf) : Fn Tryz.prog 8 [.agg (e.cs false), .agg s.cs] (.c (.bool true)) := by
  have w1 := (evalT_wf hew hw 2000).1
  obtain ⟨⟨v, n, c⟩, hE⟩ : ∃ p, evalT e s 2000 = p := ⟨_, rfl⟩
  rw [hE] at w1
  have hev := fun {fr : Bool} => hE ▸ eval_ok (fr := fr) (e := e) Xc.self hew hw (f := 2000) (by decide)
  have hrev := hE ▸ reval_ok (fr := false) (e := e) Xc.self hew hw (f := 2000) (by decide)
  have hown := of15_own hw
  obtain ⟨⟨ka, ua, ta, va, ia⟩, ⟨kb, ub, tb, vb, ib⟩, ⟨kc, uc, tc, vc, ic⟩⟩ := s
  obtain ⟨hw1, hw2, hw3⟩ := hw
  refine AC.of_J Tryz.func8 rfl Tryz.ntmps8 rfl fun w0 A0 => ?_
  refine Zs (JL.box_agg (.tmp rfl) rfl fun b2 => JL.box_agg (.tmp rfl) rfl fun b3 => Zq rfl (QW.assign .const) (Zn (J.seq (Zs (Zq rfl (QW.call gofn17 .nil (alive15_ok)) (Zq rfl (QW.not (.tmp rfl)) (Zn ?_)))))))
  refine J.cond (.tmp rfl) (fun c1 => ?_) (fun c1 => ?_)
  · skip
    exact absurd c1 (by simp)
    --closed
  skip
  refine Zk (Zs (Zq rfl (QW.load_box 0 ty31 (.tmp rfl) rfl rfl rfl) (JL.callRF [] gofn10 rfl Lent.nil (fun _ => (.cons (.tmp rfl) .nil)) (hown) (.inl rfl) fun x15 o15 h15 => ?_)))
  obtain ⟨k1, i1, p1, q1, k2, i2, p2, q2, k3, i3, p3, q3, rfl, rfl, hV1, hV2, hV3⟩ := h15
  refine JL.alloc z36 rfl rfl fun b5 => JL.store_boxF 0 ty36 (.tmp rfl) rfl (.tmp rfl) rfl rfl rfl rfl (Zn (J.seq (J.regionX mixed (Zo 0 2 [] rfl (fun _ ho_ => QW.load_box 2 ty25 (.tmp rfl) ho_ (take_at xl rfl) xl) (Zf 1 [17] rfl (fun _ => QW.call gofn9 (.cons (.tmp rfl) .nil) (of14_ok Xc.self hew)) (Zo 2 0 [] rfl (fun _ ho_ => QW.load_box 0 ty36 (.tmp rfl) ho_ rfl rfl) (JX.q 3 [18, 19] rfl rfl rfl rfl rfl rfl rfl rfl (fun ex_ => (.q rfl (QW.callLF [.k, .k, .k, .l, .l, .l, .l, .l, .l] gofn11 (Lent.cons (hV1.lentK) (Lent.cons (hV1.lentI) (Lent.cons (hV2.lentK) (Lent.cons (hV2.lentI) (Lent.cons (hV3.lentK) (Lent.cons (hV3.lentI) Lent.nil)))))) rfl (by simp [mrg]) (fun _ => (.cons (.tmp rfl) (.cons (Ev.le (.tmp rfl) (ScT.raw_le (s := ⟨.mk ka ua ta va ia, .mk kb ub tb vb ib, .mk kc uc tc vc ic⟩) (by simp [V.keys]) (by simp [V.items]) (by simp [V.keys]) (by simp [V.items]) (by simp [V.keys]) (by simp [V.items]))) (.cons .const .nil)))) (hev (fr := true)) (runAV_fresh _)))) ?_)))))))
  refine Zf 4 [20] rfl (fun _ => QW.move (.tmp rfl)) (Zf 5 [16] rfl (fun _ => QW.extract (.tmp rfl) rfl) (Zf 6 [16] rfl (fun _ => QW.extract (.tmp rfl) rfl) (Zf 7 [16] rfl (fun _ => QW.extract (.tmp rfl) rfl) (JX.a 8 rfl (AllocOp.mk z29 rfl) rfl rfl rfl rfl rfl (JX.one 9 [true, false, false, true, true, true, true, true, true] rfl (by kernel_rfl) (by kernel_rfl) rfl rfl (by kernel_rfl) rfl fun bs9_ pe_ ex_ => ?_)))))
  refine JL.conv (by (try simp only [vlF, bxF, tkM, lvM, Flt.val, Flt.bx, nx, nl, stepsO, valO, nthO, curO, mrg, AV.cellsOf, splice_zero, splice_succ, Nat.reduceAdd]); rfl) ?_
  refine JL.store_boxF 9 ty29 (.tmp rfl) rfl (.tmp rfl) rfl vl rfl rfl (JL.nil ?_)
  refine thenQ.n ⟨[], _, rfl, rfl, rfl, rfl, rfl, Reown.tkN 10 rfl, trivial, ⟨trivial, ⟨trivial, trivial⟩⟩, ?_⟩
  refine JX.conv (S' := [9, 8, 5, 4, 3, 2, 1, 0]) rfl (by (try simp only [lvM]); rfl) (by (try simp only [vlF, bxF, tkM, lvM, Flt.val, Flt.bx, nx, nl, stepsO, valO, nthO, curO, mrg, AV.cellsOf, splice_zero, splice_succ, Nat.reduceAdd]); rfl) ?_
  refine Zf 10 [22] rfl (fun _ => QW.assign (.tmp rfl)) (Zf 11 [23] rfl (fun _ => QW.assign (.tmp rfl)) (JX.fin (by kernel_rfl) (by kernel_rfl) fun bs_ => ?_))
  refine QX.conv (by (try simp only [vlF, bxF, tkM, lvM, Flt.val, Flt.bx, nx, nl, stepsO, valO, nthO, curO, mrg, AV.cellsOf, splice_zero, splice_succ, Nat.reduceAdd]); rfl) ?_
  refine thenQ.n (Zs (Zq rfl (QW.load_box 2 ty25 (.tmp rfl) rfl (take_at xl rfl) xl) (Zq rfl (QW.load_box 1 ty31 (.tmp rfl) rfl rfl rfl) (Zq rfl (QW.call gofn12 (.cons (.tmp rfl) (.cons (.tmp rfl) (.cons .const .nil))) (hrev)) (Zq rfl (QW.move (.tmp rfl)) (Zq rfl (QW.extract (.tmp rfl) rfl) (Zq rfl (QW.extract (.tmp rfl) rfl) (Zq rfl (QW.extract (.tmp rfl) rfl) (JL.alloc z29 rfl rfl fun b9 => ?_)))))))))
  refine JL.store_boxF 0 ty29 (.tmp rfl) rfl (.tmp rfl) rfl vl rfl rfl (Zq rfl (QW.assign (.tmp rfl)) (Zq rfl (QW.assign (.tmp rfl)) (Zn (Zs (Zq rfl (QW.field_ptr fo36_0 (.tmp rfl) rfl) (Zq rfl (QW.load_box 1 ty29 (.tmp rfl) rfl rfl rfl) (JL.callRF [.k, .k, .k, .k, .p, .p] gofn21 rfl Lent.nil (fun _ => (.cons (.tmp rfl) .nil)) (spoil_ok hV1 hw1) (.inl rfl) fun x33 o33 h33 => ?_)))))))
  obtain ⟨rfl, rfl⟩ := h33
  refine Zn (Zs (Zq rfl (QW.field_ptr fo36_1 (.tmp rfl) rfl) (Zq rfl (QW.load_box 1 ty29 (.tmp rfl) rfl rfl rfl) (JL.callRF [.k, .k, .k, .k, .p, .p] gofn21 rfl Lent.nil (fun _ => (.cons (.tmp rfl) .nil)) (spoil_ok hV2 hw2) (.inl rfl) fun x36 o36 h36 => ?_))))
  obtain ⟨rfl, rfl⟩ := h36
  refine Zn (Zs (Zq rfl (QW.field_ptr fo36_2 (.tmp rfl) rfl) (Zq rfl (QW.load_box 1 ty29 (.tmp rfl) rfl rfl rfl) (JL.callRF [.k, .k, .k, .k, .p, .p] gofn21 rfl Lent.nil (fun _ => (.cons (.tmp rfl) .nil)) (spoil_ok hV3 hw3) (.inl rfl) fun x39 o39 h39 => ?_))))
  obtain ⟨rfl, rfl⟩ := h39
  refine Zn (Zs (Zq rfl (QW.move (.tmp rfl)) (Zq rfl (QW.call gofn14 (.cons (.tmp rfl) .nil) (num15_ok _)) (Zq rfl (QW.move (.tmp rfl)) (Zq rfl (QW.eql (.tmp rfl) (.tmp rfl)) (Zq rfl (QW.move (.tmp rfl)) (Zg rfl (fun hg => (QW.load_box 4 ty29 (.tmp rfl) rfl (take_at vl rfl) vl)) (Zg rfl (fun hg => (QW.load_box 0 ty29 (.tmp rfl) rfl (take_at vl rfl) vl)) (Zg rfl (fun hg => (QW.call gofn13 (.cons (.when rfl hg) (.cons (.when rfl hg) .nil)) (sameValue_ok (fr := true) (fr2 := true) (v := v) (u := v) Vc.self Vc.self w1 w1))) ?_)))))))))
  exact Zq rfl (QW.pick_and (.tmp rfl) (.tmp rfl)) (Zq rfl (QW.assign (.tmp rfl)) (Zn (J.ret (Zr [.k, .k, .k, .k, .k] (RetEv.one rfl (REv.tmp rfl lr)) rfl ⟨ret_b (by simp [V.same_refl]), rfl⟩))))
end Go.Proofs.YtjhonjdhanlbkaaGreat.J

