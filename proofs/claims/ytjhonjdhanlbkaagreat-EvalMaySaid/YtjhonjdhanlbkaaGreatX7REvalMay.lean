/- Texts of this proof, laid together. -/
import Derived.Test.YtjhonjdhanlbkaaGreatX6REvalMay
/- The laws of reckoning: the small ones; EvalMay, EvalFuel. -/
namespace Go.Proofs.YtjhonjdhanlbkaaGreat.J
open Go Go.RowKit
set_option linter.unusedVariables false
set_option linter.unusedSimpArgs false
set_option maxRecDepth 10000
set_option maxHeartbeats 4000000
def xeN : EX := .mk 11 0 [] [.mk 3 4607182418800017408 [] [], .mk 3 4611686018427387904 [] []]
theorem xeN_wf : xeN.wf := .mk (by decide) (by decide) (by decide) (by decide) (fun x h => by simp at h; rcases h with rfl | rfl <;> exact .mk (by decide) (by decide) (by decide) (by decide) (fun _ h => by cases h))
def scN : ScT := ⟨.nil, .nil, .nil⟩
theorem scN_wf : scN.st.wf ∧ scN.ev.wf ∧ scN.it.wf := ⟨V.wf_nil, V.wf_nil, V.wf_nil⟩
theorem add12 : arithN .add 4607182418800017408 4611686018427387904 = 4613937818241073152 := by kernel_rfl
theorem evs_cons {x : EX} {r : List EX} {s : ScT} {f f1 f2 : Int} {v : V} {vs : List V} (h : x.ev s f = .ok (v, f1)) (h2 : EX.evs r s f1 = .ok (vs, f2)) : EX.evs (x :: r) s f = .ok (v :: vs, f2) := by
  rw [EX.evs, h]; simp only []; rw [h2]
theorem xeN_ok : evalT xeN scN 5 = (.nu 4613937818241073152, 2, 0) := by
  have h1 : xeN.err = 0 := by kernel_rfl
  have h2 : scN.st.err = 0 ∧ scN.ev.err = 0 ∧ scN.it.err = 0 := by decide
  rw [evalT_r h1 h2 (by decide)]
  have h3 : EX.evs xeN.args scN 4 = .ok ([.nu 4607182418800017408, .nu 4611686018427387904], 2) := by
    show EX.evs [.mk 3 4607182418800017408 [] [], .mk 3 4611686018427387904 [] []] scN 4 = _
    exact evs_cons (f1 := 3) (ev_3 (by decide)) (evs_cons (f1 := 2) (ev_3 (by decide)) (by rw [EX.evs]))
  refine runT_ok ((ev_pl (by decide) (by decide)).trans (plE_ok h3 ?_))
  show plainE 11 [] [.nu 4607182418800017408, .nu 4611686018427387904] = _
  rw [pe11 (by decide)]
  show Except.ok (V.nu (arithN .add 4607182418800017408 4611686018427387904)) = _
  rw [add12]
theorem xeN_le {F : List (Value × AV)} : Le F (.agg [.c (.int .i64 11), .c (.int .u64 0), .c (str []), .sl true true et34 [(EX.mk 3 4607182418800017408 [] []).raw (.slice none 0 0), (EX.mk 3 4611686018427387904 [] []).raw (.slice none 0 0)]]) (.agg (xeN.cs true)) :=
  .aggL (.cons (.refl _) (.cons (.refl _) (.cons (.refl _) (.cons (.slL (fun h => h) rfl (EX.css_sz true xeN.args) (.cons (.refl _) (.cons (.refl _) (.cons (.refl _) (.cons (.nil true false _) (.cons (.refl _) (.cons (.refl _) (.cons (.refl _) (.cons (.nil true false _) .nil))))))))) .nil))))
theorem scN_le {F : List (Value × AV)} : Le F (.agg (zV ++ zV ++ zV)) (.agg scN.cs) :=
  .aggL (.cons (.refl _) (.cons (.refl _) (.cons (.refl _) (.cons (.nil false false _) (.cons (.nil false false _) (.cons (.refl _) (.cons (.refl _) (.cons (.refl _) (.cons (.nil false false _) (.cons (.nil false false _) (.cons (.refl _) (.cons (.refl _) (.cons (.refl _) (.cons (.nil false false _) (.cons (.nil false false _) .nil)))))))))))))))
theorem num15_ok (n : Int) : Fn Tryz.prog 14 [.c (.int .i64 n)] (.c (.int .i64 n)) := by
  refine AC.of_J Tryz.func14 rfl Tryz.ntmps14 rfl fun w0 A0 => ?_
  refine J.seq ?_
  refine J.region_lit ?_
  refine JL.q rfl rfl rfl (QW.assign .const) ?_
  refine JL.nil ?_
  refine thenQ.n ?_
  refine J.seq ?_
  refine J.region_lit ?_
  refine JL.q rfl rfl rfl (QW.move (.tmp rfl)) ?_
  refine JL.q rfl rfl rfl (QW.assign (.tmp rfl)) ?_
  refine JL.nil ?_
  refine thenQ.n ?_
  refine J.ret ?_
  exact ⟨_, selP [] _, _, RetEv.one rfl (REv.tmp rfl (.refl _)), rfl, sel_perm [] _, ⟨rfl, rfl⟩⟩
theorem of15_ok {s : ScT} (hw : s.st.wf ∧ s.ev.wf ∧ s.it.wf) : Fn Tryz.prog 10 [.agg s.cs] (.agg s.cs) := by
  obtain ⟨⟨ka, ua, ta, va, ia⟩, ⟨kb, ub, tb, vb, ib⟩, ⟨kc, uc, tc, vc, ic⟩⟩ := s
  obtain ⟨hw1, hw2, hw3⟩ := hw
  refine AC.of_J Tryz.func10 rfl Tryz.ntmps10 rfl fun w0 A0 => ?_
  refine J.seq ?_
  refine J.region_lit ?_
  refine JL.box_agg (.tmp rfl) rfl fun b1 => ?_
  refine JL.alloc z36 rfl rfl fun b2 => ?_
  refine JL.nil ?_
  refine thenQ.n ?_
  refine J.seq ?_
  refine J.regionX mixed ?_
  refine JX.f 0 [] rfl rfl rfl rfl rfl rfl rfl rfl (fun ow_ => (.q rfl (QW.field_ptr fo31_0 (.tmp rfl) rfl))) ?_
  refine JX.o 1 1 [3] rfl rfl rfl rfl rfl rfl rfl rfl rfl (fun ow_ ho_ => (.q rfl (by first | exact QW.load_box 1 ty29 (.tmp rfl) ho_ rfl rfl | exact QW.load_box 1 ty29 (.tmp rfl) ho_ (take_at (V.cs_length _ _) rfl) (V.cs_length _ _)))) ?_
  refine JX.f 2 [4] rfl rfl rfl rfl rfl rfl rfl rfl (fun ow_ => (.q rfl (QW.call gofn22 (.cons (.tmp rfl) .nil) (copyValue_rd (fr := false) (v := .mk ka ua ta va ia) Vc.self hw1)))) ?_
  refine JX.f 3 [] rfl rfl rfl rfl rfl rfl rfl rfl (fun ow_ => (.q rfl (QW.field_ptr fo31_1 (.tmp rfl) rfl))) ?_
  refine JX.o 4 1 [6] rfl rfl rfl rfl rfl rfl rfl rfl rfl (fun ow_ ho_ => (.q rfl (by first | exact QW.load_box 1 ty29 (.tmp rfl) ho_ rfl rfl | exact QW.load_box 1 ty29 (.tmp rfl) ho_ (take_at (V.cs_length _ _) rfl) (V.cs_length _ _)))) ?_
  refine JX.f 5 [7] rfl rfl rfl rfl rfl rfl rfl rfl (fun ow_ => (.q rfl (QW.call gofn22 (.cons (.tmp rfl) .nil) (copyValue_rd (fr := false) (v := .mk kb ub tb vb ib) Vc.self hw2)))) ?_
  refine JX.f 6 [] rfl rfl rfl rfl rfl rfl rfl rfl (fun ow_ => (.q rfl (QW.field_ptr fo31_2 (.tmp rfl) rfl))) ?_
  refine JX.o 7 1 [9] rfl rfl rfl rfl rfl rfl rfl rfl rfl (fun ow_ ho_ => (.q rfl (by first | exact QW.load_box 1 ty29 (.tmp rfl) ho_ rfl rfl | exact QW.load_box 1 ty29 (.tmp rfl) ho_ (take_at (V.cs_length _ _) rfl) (V.cs_length _ _)))) ?_
  refine JX.f 8 [10] rfl rfl rfl rfl rfl rfl rfl rfl (fun ow_ => (.q rfl (QW.call gofn22 (.cons (.tmp rfl) .nil) (copyValue_rd (fr := false) (v := .mk kc uc tc vc ic) Vc.self hw3)))) ?_
  refine JX.f 9 [5, 8, 11] rfl rfl rfl rfl rfl rfl rfl rfl (fun ow_ => (.q rfl (QW.build (idx := [0, 1, 2]) pl36 z36 rfl (.cons (.tmp rfl) (.cons (.tmp rfl) (.cons (.tmp rfl) .nil))) rfl rfl rfl rfl))) ?_
  refine JX.one 10 [true, true, true, true, true, true, true, true, true, true] rfl (by kernel_rfl) (by kernel_rfl) rfl rfl (by kernel_rfl) rfl fun bs10_ pe_ ex_ => ?_
  refine JL.conv (by (try simp only [vlF, bxF, tkM, lvM, Flt.val, Flt.bx, List.append_assoc, List.take_succ_cons, List.take_zero, List.append_eq, id_eq, stepsO, List.map_cons, List.map_nil, valO, nthO, curO, mrg, List.reverse_cons, List.reverse_nil, List.nil_append, List.cons_append, List.append_nil, List.getElem?_cons_zero, List.getElem?_cons_succ, Option.map_some, Option.getD_some, List.set_cons_zero, List.set_cons_succ, AV.cellsOf, splice_zero, splice_succ, Nat.zero_add, Nat.reduceAdd]); rfl) ?_
  first | refine JL.store_boxF 0 ty36 (.tmp rfl) rfl (.tmp rfl) (by first | rfl | assumption) (rfl) (rfl) rfl ?_ | refine JL.store_boxF 0 ty36 (.tmp rfl) rfl (.tmp rfl) (by first | rfl | assumption) (rfl) (ScT.cs_len _) rfl ?_ | refine JL.store_boxF 0 ty36 (.tmp rfl) rfl (.tmp rfl) (by first | rfl | assumption) (ScT.cs_len _) (rfl) rfl ?_ | refine JL.store_boxF 0 ty36 (.tmp rfl) rfl (.tmp rfl) (by first | rfl | assumption) (ScT.cs_len _) (ScT.cs_len _) rfl ?_ | refine JL.store_box 0 ty36 (.tmp rfl) rfl (.tmp rfl) (by first | rfl | assumption) rfl rfl rfl rfl ?_ | refine JL.store_box 0 ty36 (.tmp rfl) rfl (.tmp rfl) (by first | rfl | assumption) (ScT.cs_len _) rfl rfl rfl ?_
  refine JL.nil ?_
  refine thenQ.n ⟨[], _, rfl, rfl, rfl, rfl, rfl, Reown.tkN 2 rfl, trivial, trivial, ?_⟩
  refine JX.conv (S' := [10, 9, 8, 7, 6, 5, 4, 3, 2, 1, 0]) rfl (by (try simp only [lvM]); rfl) (by (try simp only [vlF, bxF, tkM, lvM, Flt.val, Flt.bx, List.append_assoc, List.take_succ_cons, List.take_zero, List.append_eq, id_eq, stepsO, List.map_cons, List.map_nil, valO, nthO, curO, mrg, List.reverse_cons, List.reverse_nil, List.nil_append, List.cons_append, List.append_nil, List.getElem?_cons_zero, List.getElem?_cons_succ, Option.map_some, Option.getD_some, List.set_cons_zero, List.set_cons_succ, AV.cellsOf, splice_zero, splice_succ, Nat.zero_add, Nat.reduceAdd]); rfl) ?_
  refine JX.fin (by kernel_rfl) (by kernel_rfl) fun bs_ => ?_
  refine QX.conv (by (try simp only [vlF, bxF, tkM, lvM, Flt.val, Flt.bx, List.append_assoc, List.take_succ_cons, List.take_zero, List.append_eq, id_eq, stepsO, List.map_cons, List.map_nil, valO, nthO, curO, mrg, List.reverse_cons, List.reverse_nil, List.nil_append, List.cons_append, List.append_nil, List.getElem?_cons_zero, List.getElem?_cons_succ, Option.map_some, Option.getD_some, List.set_cons_zero, List.set_cons_succ, AV.cellsOf, splice_zero, splice_succ, Nat.zero_add, Nat.reduceAdd]); rfl) ?_
  refine thenQ.n ?_
  refine J.ret ?_
  exact ⟨_, selP [.k, .k] _, _, RetEv.one rfl (by first | exact REv.cell 0 ty36 rfl rfl rfl rfl (.aggL (.cons (.refl _) (.cons (.refl _) (.cons (.refl _) (.cons (keys_le true false (fun h => by cases h) _) (.cons (items_le true false (fun h => by cases h) _) (.cons (.refl _) (.cons (.refl _) (.cons (.refl _) (.cons (keys_le true false (fun h => by cases h) _) (.cons (items_le true false (fun h => by cases h) _) (.cons (.refl _) (.cons (.refl _) (.cons (.refl _) (.cons (keys_le true false (fun h => by cases h) _) (.cons (items_le true false (fun h => by cases h) _) (.nil))))))))))))))))) | exact REv.cell 0 ty36 rfl rfl (take_at (ScT.cs_len _) rfl) (ScT.cs_len _) (.aggL (.cons (.refl _) (.cons (.refl _) (.cons (.refl _) (.cons (keys_le true false (fun h => by cases h) _) (.cons (items_le true false (fun h => by cases h) _) (.cons (.refl _) (.cons (.refl _) (.cons (.refl _) (.cons (keys_le true false (fun h => by cases h) _) (.cons (items_le true false (fun h => by cases h) _) (.cons (.refl _) (.cons (.refl _) (.cons (.refl _) (.cons (keys_le true false (fun h => by cases h) _) (.cons (items_le true false (fun h => by cases h) _) (.nil)))))))))))))))))), rfl, sel_perm [.k, .k] _, ⟨rfl, rfl⟩⟩
theorem alive15_ok : Fn Tryz.prog 17 [] (.c (.bool true)) := by
  refine AC.of_J Tryz.func17 rfl Tryz.ntmps17 rfl fun w0 A0 => ?_
  refine J.seq ?_
  refine J.region_lit ?_
  refine JL.q rfl rfl rfl (QW.assign .const) ?_
  refine JL.nil ?_
  refine thenQ.n ?_
  refine J.seq ?_
  refine J.region_lit ?_
  refine JL.q rfl rfl rfl (QW.assign .const) ?_
  refine JL.q rfl rfl rfl (QW.assign .const) ?_
  refine JL.nil ?_
  refine thenQ.n ?_
  refine J.seq ?_
  refine J.region_lit ?_
  refine JL.q rfl rfl rfl (QW.move (.tmp rfl)) ?_
  refine JL.q rfl rfl rfl (QW.build (idx := [0, 1]) pl25 z25 rfl (.cons .const (.cons (.tmp rfl) .nil)) rfl rfl rfl rfl) ?_
  refine JL.q rfl rfl rfl (QW.move (.tmp rfl)) ?_
  refine JL.q rfl rfl rfl (QW.build (idx := [0, 1]) pl25 z25 rfl (.cons .const (.cons (.tmp rfl) .nil)) rfl rfl rfl rfl) ?_
  refine JL.q rfl rfl rfl (QW.buildSlice (idx := [0, 1]) (xs := [(EX.mk 3 4607182418800017408 [] []).raw (.slice none 0 0), (EX.mk 3 4611686018427387904 [] []).raw (.slice none 0 0)]) sl23 el25 z25 rfl (.cons (.tmp rfl) (.cons (.tmp rfl) .nil)) rfl rfl rfl rfl rfl rfl rfl rfl rfl) ?_
  refine JL.q rfl rfl rfl (QW.build (idx := [0, 3]) pl25 z25 rfl (.cons .const (.cons (.tmp rfl) .nil)) rfl rfl rfl rfl) ?_
  refine JL.q rfl rfl rfl (QW.call gofn9 (.cons (Ev.le (.tmp rfl) (xeN_le)) .nil) (of14_ok (fr := true) (v := xeN) Xc.self xeN_wf)) ?_
  refine JL.q rfl rfl rfl (QW.build (idx := []) pl36 z36 rfl .nil rfl rfl rfl rfl) ?_
  refine JL.q rfl rfl rfl (QW.call gofn11 (.cons (.tmp rfl) (.cons (Ev.le (.tmp rfl) (scN_le)) (.cons .const .nil))) (xeN_ok ▸ eval_ok (fr := true) (e := xeN) Xc.self xeN_wf (s := scN) scN_wf (f := 5) (by decide))) ?_
  refine JL.q rfl rfl rfl (QW.move (.tmp rfl)) ?_
  refine JL.q rfl rfl rfl (QW.extract (.tmp rfl) rfl) ?_
  refine JL.q rfl rfl rfl (QW.extract (.tmp rfl) rfl) ?_
  refine JL.q rfl rfl rfl (QW.extract (.tmp rfl) rfl) ?_
  refine JL.alloc z29 rfl rfl fun b3 => ?_
  first | refine JL.store_boxF 0 ty29 (.tmp rfl) rfl (.tmp rfl) (by first | rfl | assumption) (rfl) (rfl) rfl ?_ | refine JL.store_boxF 0 ty29 (.tmp rfl) rfl (.tmp rfl) (by first | rfl | assumption) (rfl) (V.cs_length _ _) rfl ?_ | refine JL.store_boxF 0 ty29 (.tmp rfl) rfl (.tmp rfl) (by first | rfl | assumption) (V.cs_length _ _) (rfl) rfl ?_ | refine JL.store_boxF 0 ty29 (.tmp rfl) rfl (.tmp rfl) (by first | rfl | assumption) (V.cs_length _ _) (V.cs_length _ _) rfl ?_ | refine JL.store_box 0 ty29 (.tmp rfl) rfl (.tmp rfl) (by first | rfl | assumption) rfl rfl rfl rfl ?_ | refine JL.store_box 0 ty29 (.tmp rfl) rfl (.tmp rfl) (by first | rfl | assumption) (V.cs_length _ _) rfl rfl rfl ?_
  refine JL.q rfl rfl rfl (QW.assign (.tmp rfl)) ?_
  refine JL.q rfl rfl rfl (QW.assign (.tmp rfl)) ?_
  refine JL.nil ?_
  refine thenQ.n ?_
  refine J.seq ?_
  refine J.region_lit ?_
  refine JL.q rfl rfl rfl (QW.move (.tmp rfl)) ?_
  refine JL.q rfl rfl rfl (QW.call gofn14 (.cons (.tmp rfl) .nil) (num15_ok _)) ?_
  refine JL.q rfl rfl rfl (QW.eql (.tmp rfl) .const) ?_
  refine JL.q rfl rfl rfl (QW.move (.tmp rfl)) ?_
  refine JL.g rfl rfl rfl rfl rfl (fun hg => (QW.field_ptr fo29_0 (.tmp rfl) rfl)) ?_
  refine JL.g rfl rfl rfl rfl rfl (fun hg => (QW.load_box1 0 ty3 (.when rfl hg) rfl rfl)) ?_
  refine JL.g rfl rfl rfl rfl rfl (fun hg => (QW.eql (.when rfl hg) .const)) ?_
  refine JL.q rfl rfl rfl (QW.pick_and (.tmp rfl) (.tmp rfl)) ?_
  refine JL.q rfl rfl rfl (QW.move (.tmp rfl)) ?_
  refine JL.g rfl rfl rfl rfl rfl (fun hg => (QW.field_ptr fo29_1 (.tmp rfl) rfl)) ?_
  refine JL.g rfl rfl rfl rfl rfl (fun hg => (QW.load_box1 0 ty22 (.when rfl hg) rfl rfl)) ?_
  refine JL.g rfl rfl rfl rfl rfl (fun hg => (QW.eql (.when rfl hg) .const)) ?_
  refine JL.q rfl rfl rfl (QW.pick_and (.tmp rfl) (.tmp rfl)) ?_
  refine JL.q rfl rfl rfl (QW.move (.tmp rfl)) ?_
  refine JL.g rfl rfl rfl rfl rfl (fun hg => (QW.move (.tmp rfl))) ?_
  refine JL.g rfl rfl rfl rfl rfl (fun hg => (QW.eql (.when rfl hg) .const)) ?_
  refine JL.q rfl rfl rfl (QW.pick_and (.tmp rfl) (.tmp rfl)) ?_
  refine JL.q rfl rfl rfl (QW.assign (.tmp rfl)) ?_
  refine JL.nil ?_
  refine thenQ.n ?_
  refine J.ret ?_
  exact ⟨_, selP [.k] _, _, RetEv.one rfl (REv.tmp rfl (.refl _)), rfl, sel_perm [.k] _, ⟨rfl, rfl⟩⟩
end Go.Proofs.YtjhonjdhanlbkaaGreat.J

/- EvalMay. -/
namespace Go.Proofs.YtjhonjdhanlbkaaGreat.J
open Go Go.RowKit
set_option linter.unusedVariables false
set_option linter.unusedSimpArgs false
set_option maxRecDepth 10000
set_option maxHeartbeats 4000000
theorem evalT_wf {e : EX} {s : ScT} (hew : e.wf) (hw : s.st.wf ∧ s.ev.wf ∧ s.it.wf) (f : Int) : (evalT e s f).1.wf ∧ ((evalT e s f).2.2 ≠ 0 → evalT e s f = (.nil, 0, (evalT e s f).2.2)) ∧ ((evalT e s f).2.2 = 0 → (evalT e s f).1.err = 0 ∧ 0 ≤ (evalT e s f).2.1 ∧ (evalT e s f).2.1 < f) := by
  rcases evalT_cases e s f with ⟨c, hc, h⟩ | ⟨v, f', h1, h, h2, h3, h4, h5⟩
  · rw [h]; exact ⟨V.wf_nil, fun _ => rfl, fun h => absurd h hc⟩
  · obtain ⟨a1, a2, a3⟩ := EX.ev_good e s f (EX.fine_of h2) hew (ScT.good_of hw h3) v f' h1
    rw [h]
    exact ⟨a1.wf, fun h => absurd rfl h, fun _ => ⟨a1.err, a3, by show f' < f; omega⟩⟩
theorem nil_le {F : List (Value × AV)} : Le F (.agg zV) (.agg (V.nil.cs false)) := .aggL (.cons (.refl _) (.cons (.refl _) (.cons (.refl _) (.cons (.nil false false _) (.cons (.nil false false _) .nil)))))
theorem evalMay_ok {e : EX} {s : ScT} {f : Int} (hew : e.wf) (hw : s.st.wf ∧ s.ev.wf ∧ s.it.wf) (h64 : -9223372036854775808 ≤ f ∧ f ≤ 9223372036854775807) : Fn Tryz.prog 4 [.agg (e.cs false), .agg s.cs, .c (.int .i64 f)] (.c (.bool true)) := by
  obtain ⟨w1, w2, w3⟩ := evalT_wf hew hw f
  refine AC.of_J Tryz.func4 rfl Tryz.ntmps4 rfl fun w0 A0 => ?_
  refine J.seq ?_
  refine J.region_lit ?_
  refine JL.box_agg (.tmp rfl) rfl fun b3 => ?_
  refine JL.box_agg (.tmp rfl) rfl fun b4 => ?_
  refine JL.q rfl rfl rfl (QW.assign .const) ?_
  refine JL.nil ?_
  refine thenQ.n ?_
  refine J.seq ?_
  refine J.seq ?_
  refine J.region_lit ?_
  refine JL.q rfl rfl rfl (QW.call gofn17 .nil (alive15_ok)) ?_
  refine JL.q rfl rfl rfl (QW.not (.tmp rfl)) ?_
  refine JL.nil ?_
  refine thenQ.n ?_
  refine J.cond (.tmp rfl) (fun c1 => ?_) (fun c1 => ?_)
  · skip
    exact absurd c1 (by simp)
    --closed
  skip
  refine J.skip ?_
  refine thenQ.n ?_
  refine J.seq ?_
  refine J.regionX mixed ?_
  refine JX.o 0 1 [] rfl rfl rfl rfl rfl rfl rfl rfl rfl (fun ow_ ho_ => (.q rfl (by first | exact QW.load_box 1 ty25 (.tmp rfl) ho_ rfl rfl | exact QW.load_box 1 ty25 (.tmp rfl) ho_ (take_at (EX.cs_length _ _) rfl) (EX.cs_length _ _)))) ?_
  refine JX.f 1 [13] rfl rfl rfl rfl rfl rfl rfl rfl (fun ow_ => (.q rfl (QW.call gofn9 (.cons (.tmp rfl) .nil) (of14_ok Xc.self hew)))) ?_
  refine JX.o 2 0 [] rfl rfl rfl rfl rfl rfl rfl rfl rfl (fun ow_ ho_ => (.q rfl (by first | exact QW.load_box 0 ty31 (.tmp rfl) ho_ rfl rfl | exact QW.load_box 0 ty31 (.tmp rfl) ho_ (take_at (ScT.cs_len _) rfl) (ScT.cs_len _)))) ?_
  refine JX.f 3 [15] rfl rfl rfl rfl rfl rfl rfl rfl (fun ow_ => (.q rfl (QW.call gofn10 (.cons (.tmp rfl) .nil) (of15_ok hw)))) ?_
  refine JX.f 4 [] rfl rfl rfl rfl rfl rfl rfl rfl (fun ow_ => (.q rfl (QW.move (.tmp rfl)))) ?_
  refine JX.f 5 [14, 16, 17] rfl rfl rfl rfl rfl rfl rfl rfl (fun ow_ => (.q rfl (QW.call gofn11 (.cons (.tmp rfl) (.cons (.tmp rfl) (.cons (.tmp rfl) .nil))) (eval_ok (e := e) Xc.self hew hw h64)))) ?_
  refine JX.f 6 [18] rfl rfl rfl rfl rfl rfl rfl rfl (fun ow_ => (.q rfl (QW.move (.tmp rfl)))) ?_
  refine JX.f 7 [12] rfl rfl rfl rfl rfl rfl rfl rfl (fun ow_ => (.q rfl (QW.extract (.tmp rfl) rfl))) ?_
  refine JX.f 8 [12] rfl rfl rfl rfl rfl rfl rfl rfl (fun ow_ => (.q rfl (QW.extract (.tmp rfl) rfl))) ?_
  refine JX.f 9 [12] rfl rfl rfl rfl rfl rfl rfl rfl (fun ow_ => (.q rfl (QW.extract (.tmp rfl) rfl))) ?_
  refine JX.a 10 rfl (AllocOp.mk z29 rfl) rfl rfl rfl rfl rfl ?_
  refine JX.one 11 [true, false, false, true, true, true, true, true, true, true, true] rfl (by kernel_rfl) (by kernel_rfl) rfl rfl (by kernel_rfl) rfl fun bs11_ pe_ ex_ => ?_
  refine JL.conv (by (try simp only [vlF, bxF, tkM, lvM, Flt.val, Flt.bx, List.append_assoc, List.take_succ_cons, List.take_zero, List.append_eq, id_eq, stepsO, List.map_cons, List.map_nil, valO, nthO, curO, mrg, List.reverse_cons, List.reverse_nil, List.nil_append, List.cons_append, List.append_nil, List.getElem?_cons_zero, List.getElem?_cons_succ, Option.map_some, Option.getD_some, List.set_cons_zero, List.set_cons_succ, AV.cellsOf, splice_zero, splice_succ, Nat.zero_add, Nat.reduceAdd]); rfl) ?_
  first | refine JL.store_boxF 2 ty29 (.tmp rfl) rfl (.tmp rfl) (by first | rfl | assumption) (rfl) (rfl) rfl ?_ | refine JL.store_boxF 2 ty29 (.tmp rfl) rfl (.tmp rfl) (by first | rfl | assumption) (rfl) (V.cs_length _ _) rfl ?_ | refine JL.store_boxF 2 ty29 (.tmp rfl) rfl (.tmp rfl) (by first | rfl | assumption) (V.cs_length _ _) (rfl) rfl ?_ | refine JL.store_boxF 2 ty29 (.tmp rfl) rfl (.tmp rfl) (by first | rfl | assumption) (V.cs_length _ _) (V.cs_length _ _) rfl ?_ | refine JL.store_box 2 ty29 (.tmp rfl) rfl (.tmp rfl) (by first | rfl | assumption) rfl rfl rfl rfl ?_ | refine JL.store_box 2 ty29 (.tmp rfl) rfl (.tmp rfl) (by first | rfl | assumption) (V.cs_length _ _) rfl rfl rfl ?_
  refine JL.nil ?_
  refine thenQ.n ⟨[], _, rfl, rfl, rfl, rfl, rfl, Reown.tkN 3 rfl, trivial, ⟨trivial, ⟨trivial, trivial⟩⟩, ?_⟩
  refine JX.conv (S' := [11, 10, 7, 6, 5, 4, 3, 2, 1, 0]) rfl (by (try simp only [lvM]); rfl) (by (try simp only [vlF, bxF, tkM, lvM, Flt.val, Flt.bx, List.append_assoc, List.take_succ_cons, List.take_zero, List.append_eq, id_eq, stepsO, List.map_cons, List.map_nil, valO, nthO, curO, mrg, List.reverse_cons, List.reverse_nil, List.nil_append, List.cons_append, List.append_nil, List.getElem?_cons_zero, List.getElem?_cons_succ, Option.map_some, Option.getD_some, List.set_cons_zero, List.set_cons_succ, AV.cellsOf, splice_zero, splice_succ, Nat.zero_add, Nat.reduceAdd]); rfl) ?_
  refine JX.f 12 [20] rfl rfl rfl rfl rfl rfl rfl rfl (fun ow_ => (.q rfl (QW.assign (.tmp rfl)))) ?_
  refine JX.f 13 [21] rfl rfl rfl rfl rfl rfl rfl rfl (fun ow_ => (.q rfl (QW.assign (.tmp rfl)))) ?_
  refine JX.fin (by kernel_rfl) (by kernel_rfl) fun bs_ => ?_
  refine QX.conv (by (try simp only [vlF, bxF, tkM, lvM, Flt.val, Flt.bx, List.append_assoc, List.take_succ_cons, List.take_zero, List.append_eq, id_eq, stepsO, List.map_cons, List.map_nil, valO, nthO, curO, mrg, List.reverse_cons, List.reverse_nil, List.nil_append, List.cons_append, List.append_nil, List.getElem?_cons_zero, List.getElem?_cons_succ, Option.map_some, Option.getD_some, List.set_cons_zero, List.set_cons_succ, AV.cellsOf, splice_zero, splice_succ, Nat.zero_add, Nat.reduceAdd]); rfl) ?_
  refine thenQ.n ?_
  refine J.seq ?_
  refine J.seq ?_
  refine J.region_lit ?_
  refine JL.q rfl rfl rfl (QW.move (.tmp rfl)) ?_
  refine JL.q rfl rfl rfl (QW.call gofn14 (.cons (.tmp rfl) .nil) (num15_ok _)) ?_
  refine JL.q rfl rfl rfl (QW.neq (.tmp rfl) .const) ?_
  refine JL.nil ?_
  refine thenQ.n ?_
  refine J.cond (.tmp rfl) (fun c2 => ?_) (fun c2 => ?_)
  · skip
    have hbad : (evalT e s f).2.2 ≠ 0 := by simpa using c2
    refine J.seq ?_
    refine J.region_lit ?_
    refine JL.q rfl rfl rfl (QW.move (.tmp rfl)) ?_
    refine JL.q rfl rfl rfl (QW.eql (.tmp rfl) .const) ?_
    refine JL.q rfl rfl rfl (QW.move (.tmp rfl)) ?_
    refine JL.g rfl rfl rfl rfl rfl (fun hg => (by first | exact QW.load_box 2 ty29 (.tmp rfl) rfl rfl rfl | exact QW.load_box 2 ty29 (.tmp rfl) rfl (take_at (V.cs_length _ _) rfl) (V.cs_length _ _))) ?_
    refine JL.g rfl rfl rfl rfl rfl (fun hg => (QW.build (idx := []) pl29 z29 rfl .nil rfl rfl rfl rfl)) ?_
    refine JL.g rfl rfl rfl rfl rfl (fun hg => (QW.call gofn13 (.cons (.when rfl hg) (.cons (Ev.le (.when rfl hg) (nil_le)) .nil)) (sameValue_ok (fr := true) (fr2 := false) (v := (evalT e s f).1) (u := .nil) Vc.self Vc.self w1 V.wf_nil))) ?_
    refine JL.q rfl rfl rfl (QW.pick_and (.tmp rfl) (.tmp rfl)) ?_
    refine JL.q rfl rfl rfl (QW.assign (.tmp rfl)) ?_
    refine JL.nil ?_
    refine thenQ.n ?_
    refine J.ret ?_
    refine thenQ.r ?_
    exact ⟨_, selP [.k, .k, .k] _, _, RetEv.one rfl (REv.tmp rfl (.refl _)), rfl, sel_perm [.k, .k, .k] _, ⟨ret_b (by rw [w2 hbad]; simp [V.same_refl]), rfl⟩⟩
  have hgo : (evalT e s f).2.2 = 0 := by simpa using c2
  obtain ⟨g1, g2, g3⟩ := w3 hgo
  refine J.skip ?_
  refine thenQ.n ?_
  refine J.seq ?_
  refine J.region_lit ?_
  refine JL.q rfl rfl rfl (by first | exact QW.load_box 2 ty29 (.tmp rfl) rfl rfl rfl | exact QW.load_box 2 ty29 (.tmp rfl) rfl (take_at (V.cs_length _ _) rfl) (V.cs_length _ _)) ?_
  refine JL.q rfl rfl rfl (QW.call gofn18 (.cons (.tmp rfl) .nil) (check_ok Vc.self w1)) ?_
  refine JL.q rfl rfl rfl (QW.call gofn14 (.cons (.tmp rfl) .nil) (num15_ok _)) ?_
  refine JL.q rfl rfl rfl (QW.eql (.tmp rfl) .const) ?_
  refine JL.q rfl rfl rfl (QW.move (.tmp rfl)) ?_
  refine JL.g rfl rfl rfl rfl rfl (fun hg => (QW.move (.tmp rfl))) ?_
  refine JL.g rfl rfl rfl rfl rfl (fun hg => (QW.geq (.when rfl hg) .const)) ?_
  refine JL.q rfl rfl rfl (QW.pick_and (.tmp rfl) (.tmp rfl)) ?_
  refine JL.q rfl rfl rfl (QW.move (.tmp rfl)) ?_
  refine JL.g rfl rfl rfl rfl rfl (fun hg => (QW.move (.tmp rfl))) ?_
  refine JL.g rfl rfl rfl rfl rfl (fun hg => (QW.move (.tmp rfl))) ?_
  refine JL.g rfl rfl rfl rfl rfl (fun hg => (QW.lss (.when rfl hg) (.when rfl hg))) ?_
  refine JL.q rfl rfl rfl (QW.pick_and (.tmp rfl) (.tmp rfl)) ?_
  refine JL.q rfl rfl rfl (QW.assign (.tmp rfl)) ?_
  refine JL.nil ?_
  refine thenQ.n ?_
  refine J.ret ?_
  exact ⟨_, selP [.k, .k, .k] _, _, RetEv.one rfl (REv.tmp rfl (.refl _)), rfl, sel_perm [.k, .k, .k] _, ⟨ret_b (by simp [g1, g2, g3]), rfl⟩⟩
end Go.Proofs.YtjhonjdhanlbkaaGreat.J

