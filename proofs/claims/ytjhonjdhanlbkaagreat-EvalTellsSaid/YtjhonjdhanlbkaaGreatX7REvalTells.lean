/- Texts of this proof, laid together. -/
import Derived.Test.YtjhonjdhanlbkaaGreatX6REvalTells
set_option linter.unusedVariables false
set_option linter.unusedSimpArgs false
/- EvalTells. -/
namespace Go.Proofs.YtjhonjdhanlbkaaGreat.J
open Go Go.RowKit
set_option maxRecDepth 10000
set_option maxHeartbeats 4000000
theorem stays15_ok {s : ScT} (hw : s.st.wf ∧ s.ev.wf ∧ s.it.wf) : Fn Tryz.prog 15 [.agg s.cs, .agg s.cs] (.c (.bool true)) := by
  obtain ⟨⟨ka, ua, ta, va, ia⟩, ⟨kb, ub, tb, vb, ib⟩, ⟨kc, uc, tc, vc, ic⟩⟩ := s
  obtain ⟨hw1, hw2, hw3⟩ := hw
  refine AC.of_J Tryz.func15 rfl Tryz.ntmps15 rfl fun w0 A0 => ?_
  refine Zs (JL.box_agg (.tmp rfl) rfl fun b2 => JL.box_agg (.tmp rfl) rfl fun b3 => Zq rfl (QW.assign .const) (Zn (Zs (Zq rfl (QW.field_ptr fo36_0 (.tmp rfl) rfl) (Zq rfl (QW.load_box 1 ty29 (.tmp rfl) rfl rfl rfl) (Zq rfl (QW.field_ptr fo31_0 (.tmp rfl) rfl) (Zq rfl (QW.load_box 0 ty29 (.tmp rfl) rfl rfl rfl) ?_)))))))
  refine Zq rfl (QW.call gofn13 (.cons (.tmp rfl) (.cons (.tmp rfl) .nil)) (sameValue_ok (fr := false) (fr2 := false) (v := .mk ka ua ta va ia) (u := .mk ka ua ta va ia) Vc.self Vc.self hw1 hw1)) (Zq rfl (QW.move (.tmp rfl)) (Zg rfl (fun hg => (QW.field_ptr fo36_1 (.tmp rfl) rfl)) (Zg rfl (fun hg => (QW.load_box 1 ty29 (.when rfl hg) rfl rfl rfl)) (Zg rfl (fun hg => (QW.field_ptr fo31_1 (.tmp rfl) rfl)) (Zg rfl (fun hg => (QW.load_box 0 ty29 (.when rfl hg) rfl rfl rfl)) (Zg rfl (fun hg => (QW.call gofn13 (.cons (.when rfl hg) (.cons (.when rfl hg) .nil)) (sameValue_ok (fr := false) (fr2 := false) (v := .mk kb ub tb vb ib) (u := .mk kb ub tb vb ib) Vc.self Vc.self hw2 hw2))) (Zq rfl (QW.pick_and (.tmp rfl) (.tmp rfl)) (Zq rfl (QW.move (.tmp rfl)) (Zg rfl (fun hg => (QW.field_ptr fo36_2 (.tmp rfl) rfl)) ?_)))))))))
  exact Zg rfl (fun hg => (QW.load_box 1 ty29 (.when rfl hg) rfl rfl rfl)) (Zg rfl (fun hg => (QW.field_ptr fo31_2 (.tmp rfl) rfl)) (Zg rfl (fun hg => (QW.load_box 0 ty29 (.when rfl hg) rfl rfl rfl)) (Zg rfl (fun hg => (QW.call gofn13 (.cons (.when rfl hg) (.cons (.when rfl hg) .nil)) (sameValue_ok (fr := false) (fr2 := false) (v := .mk kc uc tc vc ic) (u := .mk kc uc tc vc ic) Vc.self Vc.self hw3 hw3))) (Zq rfl (QW.pick_and (.tmp rfl) (.tmp rfl)) (Zq rfl (QW.assign (.tmp rfl)) (Zn (J.ret (Zr [.k, .k] (RetEv.one rfl (REv.tmp rfl lr)) rfl ⟨ret_b (by simp [V.same_refl]), rfl⟩))))))))
theorem evalTells_ok {e : EX} {s : ScT} {f : Int} (hew : e.wf) (hw : s.st.wf ∧ s.ev.wf ∧ s.it.wf) (h64 : -9223372036854775808 ≤ f ∧ f ≤ 9223372036854775807) : Fn Tryz.prog 3 [.agg (e.cs false), .agg s.cs, .c (.int .i64 f)] (.c (.bool true)) := by
  have w1 := (evalT_wf hew hw f).1
  obtain ⟨⟨v, n, c⟩, hE⟩ : ∃ p, evalT e s f = p := ⟨_, rfl⟩
  rw [hE] at w1
  refine AC.of_J Tryz.func3 rfl Tryz.ntmps3 rfl fun w0 A0 => ?_
  refine Zs (JL.box_agg (.tmp rfl) rfl fun b3 => JL.box_agg (.tmp rfl) rfl fun b4 => Zq rfl (QW.assign .const) (Zn (J.seq (J.regionX mixed (Zo 0 1 [] rfl (fun _ ho_ => QW.load_box 1 ty25 (.tmp rfl) ho_ (take_at xl rfl) xl) (Zf 1 [15] rfl (fun _ => QW.call gofn9 (.cons (.tmp rfl) .nil) (of14_ok Xc.self hew)) (Zo 2 0 [] rfl (fun _ ho_ => QW.load_box 0 ty31 (.tmp rfl) ho_ (take_at (ScT.cs_len _) rfl) (ScT.cs_len _)) ?_)))))))
  refine Zf 3 [17] rfl (fun _ => QW.call gofn10 (.cons (.tmp rfl) .nil) (of15_ok hw)) (JX.a 4 rfl (AllocOp.mk z34 rfl) rfl rfl rfl rfl rfl (JX.a 5 rfl (AllocOp.mk z36 rfl) rfl rfl rfl rfl rfl (JX.one 6 [true, true, true, true, true, true] rfl (by kernel_rfl) (by kernel_rfl) rfl rfl (by kernel_rfl) rfl fun bs6_ pe_ ex_ => ?_)))
  refine JL.conv (by (try simp only [vlF, bxF, tkM, lvM, Flt.val, Flt.bx, nx, nl, stepsO, valO, nthO, curO, mrg, AV.cellsOf, splice_zero, splice_succ, Nat.reduceAdd]); rfl) ?_
  refine JL.store_boxF 3 ty34 (.tmp rfl) rfl (.tmp rfl) rfl xl rfl rfl (JL.nil ?_)
  refine thenQ.n ⟨[], _, rfl, rfl, rfl, rfl, rfl, Reown.tkN 4 rfl, trivial, trivial, ?_⟩
  refine JX.conv (S' := [6, 5, 4, 3, 2, 1, 0]) rfl (by (try simp only [lvM]); rfl) (by (try simp only [vlF, bxF, tkM, lvM, Flt.val, Flt.bx, nx, nl, stepsO, valO, nthO, curO, mrg, AV.cellsOf, splice_zero, splice_succ, Nat.reduceAdd]); rfl) ?_
  refine JX.one 7 [] rfl (by kernel_rfl) (by kernel_rfl) rfl rfl (by kernel_rfl) rfl fun bs7_ pe_ ex_ => ?_
  refine JL.conv (by (try simp only [vlF, bxF, tkM, lvM, Flt.val, Flt.bx, nx, nl, stepsO, valO, nthO, curO, mrg, AV.cellsOf, splice_zero, splice_succ, Nat.reduceAdd]); rfl) ?_
  refine JL.store_boxF 2 ty36 (.tmp rfl) rfl (.tmp rfl) rfl (ScT.cs_len _) rfl rfl (JL.nil ?_)
  refine thenQ.n ⟨[], _, rfl, rfl, rfl, rfl, rfl, Reown.tkN 4 rfl, trivial, trivial, ?_⟩
  refine JX.conv (S' := [7, 6, 5, 4, 3, 2, 1, 0]) rfl (by (try simp only [lvM]); rfl) (by (try simp only [vlF, bxF, tkM, lvM, Flt.val, Flt.bx, nx, nl, stepsO, valO, nthO, curO, mrg, AV.cellsOf, splice_zero, splice_succ, Nat.reduceAdd]); rfl) ?_
  refine JX.fin (by kernel_rfl) (by kernel_rfl) fun bs_ => ?_
  refine QX.conv (by (try simp only [vlF, bxF, tkM, lvM, Flt.val, Flt.bx, nx, nl, stepsO, valO, nthO, curO, mrg, AV.cellsOf, splice_zero, splice_succ, Nat.reduceAdd]); rfl) ?_
  refine thenQ.n (Zs (Zq rfl (QW.load_box 3 ty34 (.tmp rfl) rfl (take_at xl rfl) xl) (Zq rfl (QW.load_box 2 ty36 (.tmp rfl) rfl (take_at (ScT.cs_len _) rfl) (ScT.cs_len _)) (Zq rfl (QW.move (.tmp rfl)) (Zq rfl (QW.call gofn11 (.cons (.tmp rfl) (.cons (.tmp rfl) (.cons (.tmp rfl) .nil))) ((hE ▸ eval_ok (fr := true) (e := e) Xc.self hew hw h64))) (Zq rfl (QW.move (.tmp rfl)) (Zq rfl (QW.extract (.tmp rfl) rfl) (Zq rfl (QW.extract (.tmp rfl) rfl) (Zq rfl (QW.extract (.tmp rfl) rfl) ?_)))))))))
  refine JL.alloc z29 rfl rfl fun b9 => JL.store_boxF 0 ty29 (.tmp rfl) rfl (.tmp rfl) rfl vl rfl rfl (Zq rfl (QW.assign (.tmp rfl)) (Zq rfl (QW.assign (.tmp rfl)) (Zn (Zs (Zq rfl (QW.load_box 2 ty25 (.tmp rfl) rfl (take_at xl rfl) xl) (Zq rfl (QW.load_box 1 ty31 (.tmp rfl) rfl (take_at (ScT.cs_len _) rfl) (ScT.cs_len _)) (Zq rfl (QW.move (.tmp rfl)) (Zq rfl (QW.call gofn12 (.cons (.tmp rfl) (.cons (.tmp rfl) (.cons (.tmp rfl) .nil))) ((hE ▸ reval_ok (fr := false) (e := e) Xc.self hew hw h64))) ?_))))))))
  refine Zq rfl (QW.move (.tmp rfl)) (Zq rfl (QW.extract (.tmp rfl) rfl) (Zq rfl (QW.extract (.tmp rfl) rfl) (Zq rfl (QW.extract (.tmp rfl) rfl) (JL.alloc z29 rfl rfl fun b12 => JL.store_boxF 0 ty29 (.tmp rfl) rfl (.tmp rfl) rfl vl rfl rfl (Zq rfl (QW.assign (.tmp rfl)) (Zq rfl (QW.assign (.tmp rfl)) (Zn (Zs ?_))))))))
  refine Zq rfl (QW.load_box 1 ty29 (.tmp rfl) rfl (take_at vl rfl) vl) (Zq rfl (QW.load_box 0 ty29 (.tmp rfl) rfl (take_at vl rfl) vl) (Zq rfl (QW.call gofn13 (.cons (.tmp rfl) (.cons (.tmp rfl) .nil)) (sameValue_ok (fr := true) (fr2 := true) (v := v) (u := v) Vc.self Vc.self w1 w1)) (Zq rfl (QW.move (.tmp rfl)) (Zg rfl (fun hg => (QW.move (.tmp rfl))) (Zg rfl (fun hg => (QW.move (.tmp rfl))) (Zg rfl (fun hg => (QW.eql (.when rfl hg) (.when rfl hg))) (Zq rfl (QW.pick_and (.tmp rfl) (.tmp rfl)) (Zq rfl (QW.move (.tmp rfl)) (Zg rfl (fun hg => (QW.move (.tmp rfl))) ?_)))))))))
  refine Zg rfl (fun hg => (QW.call gofn14 (.cons (.when rfl hg) .nil) (num15_ok _))) (Zg rfl (fun hg => (QW.move (.tmp rfl))) (Zg rfl (fun hg => (QW.eql (.when rfl hg) (.when rfl hg))) (Zq rfl (QW.pick_and (.tmp rfl) (.tmp rfl)) (Zq rfl (QW.move (.tmp rfl)) (Zg rfl (fun hg => (QW.load_box 4 ty36 (.tmp rfl) rfl (take_at (ScT.cs_len _) rfl) (ScT.cs_len _))) (Zg rfl (fun hg => (QW.load_box 2 ty31 (.tmp rfl) rfl (take_at (ScT.cs_len _) rfl) (ScT.cs_len _))) (Zg rfl (fun hg => (QW.call gofn15 (.cons (.when rfl hg) (.cons (.when rfl hg) .nil)) (stays15_ok hw))) (Zq rfl (QW.pick_and (.tmp rfl) (.tmp rfl)) (Zq rfl (QW.move (.tmp rfl)) ?_)))))))))
  refine Zg rfl (fun hg => (QW.load_box 5 ty34 (.tmp rfl) rfl (take_at xl rfl) xl)) (Zg rfl (fun hg => (QW.load_box 3 ty25 (.tmp rfl) rfl (take_at xl rfl) xl)) (Zg rfl (fun hg => (QW.call gofn16 (.cons (.when rfl hg) (.cons (.when rfl hg) .nil)) (elalike_ok Xc.self Xc.self hew hew))) (Zg rfl (fun hg => (QW.eql (.when rfl hg) .const)) (Zq rfl (QW.pick_and (.tmp rfl) (.tmp rfl)) (Zq rfl (QW.move (.tmp rfl)) (Zg rfl (fun hg => (QW.call gofn17 .nil (alive15_ok))) (Zq rfl (QW.pick_and (.tmp rfl) (.tmp rfl)) (Zq rfl (QW.assign (.tmp rfl)) (Zn ?_)))))))))
  exact J.ret (Zr [.k, .k, .k, .k, .k, .k] (RetEv.one rfl (REv.tmp rfl lr)) rfl ⟨ret_b (by simp [V.same_refl, EX.same_refl]), rfl⟩)
end Go.Proofs.YtjhonjdhanlbkaaGreat.J

