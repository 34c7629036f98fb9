/- Texts of this proof, laid together. -/
import Derived.Test.YtjhonjdhanlbkaaGreatX6REvalIf
set_option linter.unusedVariables false
set_option linter.unusedSimpArgs false
/- EvalIf. -/
namespace Go.Proofs.YtjhonjdhanlbkaaGreat.J
open Go Go.RowKit
set_option maxRecDepth 10000
set_option maxHeartbeats 4000000
def ifE (t : Bool) (a y : EX) : EX := .mk 21 0 [] [.mk (if t then 2 else 1) 0 [] [], a, y]
theorem ifE_wf {t : Bool} {a y : EX} (ha : a.wf) (hy : y.wf) : (ifE t a y).wf := .mk (by decide) (by decide) (by decide) (by show 3 * 56 ≤ reach; decide) (fun x h => by
  simp at h
  rcases h with rfl | rfl | rfl
  · exact .mk (by cases t <;> decide) (by decide) (by decide) (by decide) (fun _ h => by cases h)
  · exact ha
  · exact hy)
theorem ifE_le {F : List (Value × AV)} {v : Value} (t : Bool) (a y : EX) (hm : (v, .sl true false eEX [[.c (.int .i64 (if t then 2 else 1)), .c (.int .u64 0), .c (str []), .c (.slice none 0 0)], a.cs false, y.cs false]) ∈ F) :
    Le F (.agg [.c (.int .i64 21), .c (.int .u64 0), .c (str []), .c v]) (.agg ((ifE t a y).cs false)) := by
  have h : LeL F ([[.c (.int .i64 (if t then 2 else 1)), .c (.int .u64 0), .c (str []), .c (.slice none 0 0)], a.cs false, y.cs false].flatten) (EX.css false [.mk (if t then 2 else 1) 0 [] [], a, y]).flatten := by
    show LeL F ([_, _, _, _] ++ (a.cs false ++ (y.cs false ++ []))) ([_, _, _, _] ++ (a.cs false ++ (y.cs false ++ [])))
    exact LeL.append (.cons (.refl _) (.cons (.refl _) (.cons (.refl _) (.cons (.nil false false _) .nil)))) (.refl _)
  exact .aggL (.cons (.refl _) (.cons (.refl _) (.cons (.refl _) (.cons (.fact hm (.slL (fun h => by cases h) rfl (EX.css_sz false _) h)) .nil))))
theorem evalT_if {t : Bool} {a y : EX} {s : ScT} (h : (ifE t a y).err = 0) : evalT (ifE t a y) s 3000 = evalT (if t then a else y) s 2998 := by
  have ha : a.err = 0 := (EX.kid_ok h (by simp)).1
  have hy : y.err = 0 := (EX.kid_ok h (by simp)).1
  have hm : (if t then a else y).err = 0 := by cases t <;> assumption
  have he : (ifE t a y).ev s 3000 = (if t then a else y).ev s 2998 := by
    unfold ifE
    rw [ev_21 (by decide)]
    cases t with
    | true => exact if_t (f1 := 2998) (by show truE ((EX.mk 2 0 [] []).ev s 2999) = _; rw [ev_2 (by decide)]; rfl)
    | false => exact if_f (f1 := 2998) (by show truE ((EX.mk 1 0 [] []).ev s 2999) = _; rw [ev_1 (by decide)]; rfl)
  unfold evalT runT
  rw [h, hm, he]
  simp
theorem evalIf_ok {tr : Bool} {a y : EX} {s : ScT} (hwa : a.wf) (hwy : y.wf) (hw : s.st.wf ∧ s.ev.wf ∧ s.it.wf) : Fn Tryz.prog 6 [.c (.bool tr), .agg (a.cs false), .agg (y.cs false), .agg s.cs] (.c (.bool true)) := by
  obtain ⟨oa, ba, ta, la⟩ := a
  obtain ⟨oy, by_, ty_, ly⟩ := y
  refine AC.of_J Tryz.func6 rfl Tryz.ntmps6 rfl fun w0 A0 => ?_
  refine J.seq ?_
  refine J.region_lit ?_
  refine JL.box_agg (.tmp rfl) rfl fun b5 => ?_
  refine JL.box_agg (.tmp rfl) rfl fun b6 => ?_
  refine JL.box_agg (.tmp rfl) rfl fun b7 => ?_
  refine JL.q rfl rfl rfl (QW.assign .const) ?_
  refine JL.nil ?_
  refine thenQ.n ?_
  refine J.seq ?_
  refine J.seq ?_
  refine J.region_lit ?_
  refine JL.q rfl rfl rfl (QW.call gofn17 .nil (alive15_ok)) ?_
  refine JL.q rfl rfl rfl (QW.not (.tmp rfl)) ?_
  refine JL.nil ?_
  refine thenQ.n ?_
  refine J.cond (.tmp rfl) (fun c1 => ?_) (fun c1 => ?_)
  · skip
    exact absurd c1 (by simp)
    --closed
  skip
  refine J.skip ?_
  refine thenQ.n ?_
  refine J.seq ?_
  refine J.region_lit ?_
  refine JL.q rfl rfl rfl (QW.build (idx := [0]) pl25 z25 rfl (.cons .const .nil) rfl rfl rfl rfl) ?_
  refine JL.q rfl rfl rfl (by first | exact QW.load_box 2 ty25 (.tmp rfl) rfl rfl rfl | exact QW.load_box 2 ty25 (.tmp rfl) rfl (take_at (EX.cs_length _ _) rfl) (EX.cs_length _ _)) ?_
  refine JL.q rfl rfl rfl (by first | exact QW.load_box 1 ty25 (.tmp rfl) rfl rfl rfl | exact QW.load_box 1 ty25 (.tmp rfl) rfl (take_at (EX.cs_length _ _) rfl) (EX.cs_length _ _)) ?_
  refine JL.buildOwn (idx := [0, 1, 2]) (e := eEX) (xs := [(EX.mk 1 0 [] []).raw (.slice none 0 0), (EX.mk oa ba ta la).cs false, (EX.mk oy by_ ty_ ly).cs false]) sl23 el25 z25 rfl (.cons (.tmp rfl) (.cons (.tmp rfl) (.cons (.tmp rfl) .nil))) rfl rfl rfl rfl rfl rfl rfl rfl rfl fun v22 => ?_
  refine JL.reown (Reown.perm (List.perm_append_singleton _ _).symm) ?_
  refine JL.isSlice 3 rfl fun hs1 => ?_
  refine JL.q rfl rfl rfl (QW.build (idx := [0, 3]) pl25 z25 rfl (.cons .const (.cons (.tmp rfl) .nil)) rfl (by simp [AV.plain, AV.one, hs1]; rfl) rfl rfl) ?_
  refine JL.alloc z25 rfl rfl fun b9 => ?_
  first | refine JL.store_boxF 0 ty25 (.tmp rfl) rfl (.tmp rfl) (by first | rfl | assumption) (by first | rfl | exact EX.cs_length _ _) (by first | rfl | exact EX.cs_length _ _) rfl ?_ | refine JL.store_box 0 ty25 (.tmp rfl) rfl (.tmp rfl) (by first | rfl | assumption) (by first | rfl | exact EX.cs_length _ _) rfl rfl rfl ?_
  refine JL.nil ?_
  refine thenQ.n ?_
  refine J.seq ?_
  refine J.region_lit ?_
  refine JL.q rfl rfl rfl (by first | exact QW.load_box 2 ty25 (.tmp rfl) rfl rfl rfl | exact QW.load_box 2 ty25 (.tmp rfl) rfl (take_at (EX.cs_length _ _) rfl) (EX.cs_length _ _)) ?_
  refine JL.alloc z25 rfl rfl fun b10 => ?_
  first | refine JL.store_boxF 0 ty25 (.tmp rfl) rfl (.tmp rfl) (by first | rfl | assumption) (by first | rfl | exact EX.cs_length _ _) (by first | rfl | exact EX.cs_length _ _) rfl ?_ | refine JL.store_box 0 ty25 (.tmp rfl) rfl (.tmp rfl) (by first | rfl | assumption) (by first | rfl | exact EX.cs_length _ _) rfl rfl rfl ?_
  refine JL.nil ?_
  refine thenQ.n ?_
  refine J.seq ?_
  refine J.seq ?_
  skip
  refine J.region_lit ?_
  refine JL.q rfl rfl rfl (QW.move (.tmp rfl)) ?_
  refine JL.nil ?_
  refine thenQ.n ?_
  refine J.cond (.tmp rfl) (fun c2 => ?_) (fun c2 => ?_)
  · skip
    obtain rfl : tr = true := by simpa using c2
    have hle := fun F => @ifE_le F v22 true (.mk oa ba ta la) (.mk oy by_ ty_ ly)
    have hck := ercheck_ok (fr := false) (v := ifE true (.mk oa ba ta la) (.mk oy by_ ty_ ly)) Xc.self (ifE_wf hwa hwy)
    have hof := of14_ok (fr := false) (v := ifE true (.mk oa ba ta la) (.mk oy by_ ty_ ly)) Xc.self (ifE_wf hwa hwy)
    have hev := eval_ok (fr := true) (e := ifE true (.mk oa ba ta la) (.mk oy by_ ty_ ly)) Xc.self (ifE_wf hwa hwy) hw (f := 3000) (by decide)
    have hwm : (EX.mk oa ba ta la).wf := hwa
    have hofm := of14_ok (fr := false) (v := EX.mk oa ba ta la) Xc.self hwm
    have hevm := eval_ok (fr := true) (e := EX.mk oa ba ta la) Xc.self hwm hw (f := 2998) (by decide)
    obtain ⟨w1, -, -⟩ := evalT_wf (ifE_wf (t := true) hwa hwy) hw 3000
    obtain ⟨w2, -, -⟩ := evalT_wf hwm hw 2998
    have hsm := sameValue_ok (fr := true) (fr2 := true) (v := (evalT (ifE true (.mk oa ba ta la) (.mk oy by_ ty_ ly)) s 3000).1) (u := (evalT (EX.mk oa ba ta la) s 2998).1) Vc.self Vc.self w1 w2
    refine J.seq ?_
    refine J.region_lit ?_
    refine JL.q rfl rfl rfl (QW.field_ptr fo25_3 (.tmp rfl) rfl) ?_
    refine JL.q rfl rfl rfl (QW.load_box1 1 ty23 (.tmp rfl) rfl rfl) ?_
    refine JL.q rfl rfl rfl (QW.index_arr 5 sl23 ty25 rfl (.tmp rfl) rfl .const (by first | rfl | omega | (simp; done)) (by simp) rfl) ?_
    refine JL.q rfl rfl rfl (QW.field_gp fo25_0 (.tmp rfl) rfl) ?_
    refine JL.store_gp (o := 0) 5 ty3 (.tmp rfl) rfl (k := 0) rfl rfl .const rfl rfl rfl rfl rfl ?_
    refine JL.nil ?_
    refine thenQ.n ?_
    refine J.region_lit ?_
    refine JL.q rfl rfl rfl (by first | exact QW.load_box 4 ty25 (.tmp rfl) rfl rfl rfl | exact QW.load_box 4 ty25 (.tmp rfl) rfl (take_at (EX.cs_length _ _) rfl) (EX.cs_length _ _)) ?_
    first | refine JL.store_boxF 0 ty25 (.tmp rfl) rfl (.tmp rfl) (by first | rfl | assumption) (by first | rfl | exact EX.cs_length _ _) (by first | rfl | exact EX.cs_length _ _) rfl ?_ | refine JL.store_box 0 ty25 (.tmp rfl) rfl (.tmp rfl) (by first | rfl | assumption) (by first | rfl | exact EX.cs_length _ _) rfl rfl rfl ?_
    refine JL.nil ?_
    refine thenQ.n ?_
    refine J.seq ?_
    refine J.seq ?_
    refine J.closeArr 5 rfl (by show 3 * 56 ≤ reach; decide) rfl (fun _ h => by cases h) ?_
    refine J.region_lit ?_
    refine JL.q rfl rfl rfl (by first | exact QW.load_box 1 ty25 (.tmp rfl) rfl rfl rfl | exact QW.load_box 1 ty25 (.tmp rfl) rfl (take_at (EX.cs_length _ _) rfl) (EX.cs_length _ _)) ?_
    refine JL.q rfl rfl rfl (QW.call gofn19 (.cons (Ev.le (.tmp rfl) (hle _ List.mem_cons_self)) .nil) (hck)) ?_
    refine JL.q rfl rfl rfl (QW.neq (.tmp rfl) .const) ?_
    refine JL.nil ?_
    refine thenQ.n ?_
    refine J.cond (.tmp rfl) (fun c3 => ?_) (fun c3 => ?_)
    · skip
      refine J.seq ?_
      refine J.region_lit ?_
      refine JL.q rfl rfl rfl (QW.assign .const) ?_
      refine JL.nil ?_
      refine thenQ.n ?_
      refine J.ret ?_
      refine thenQ.r ?_
      exact ⟨_, selP [.k, .k, .k, .k, .k] _, _, RetEv.one rfl (REv.tmp rfl (.refl _)), rfl, sel_perm [.k, .k, .k, .k, .k] _, ⟨rfl, rfl⟩⟩
    have hif := evalT_if (t := true) (a := .mk oa ba ta la) (y := .mk oy by_ ty_ ly) (s := s) (by simpa using c3)
    refine J.skip ?_
    refine thenQ.n ?_
    refine J.seq ?_
    refine J.regionX mixed ?_
    refine JX.o 0 1 [] rfl rfl rfl rfl rfl rfl rfl rfl rfl (fun ow_ ho_ => (.q rfl (by first | exact QW.load_box 1 ty25 (.tmp rfl) ho_ rfl rfl | exact QW.load_box 1 ty25 (.tmp rfl) ho_ (take_at (EX.cs_length _ _) rfl) (EX.cs_length _ _)))) ?_
    refine JX.f 1 [35] rfl rfl rfl rfl rfl rfl rfl rfl (fun ow_ => (.q rfl (QW.call gofn9 (.cons (Ev.le (.tmp rfl) (hle _ List.mem_cons_self)) .nil) (hof)))) ?_
    refine JX.o 2 2 [] rfl rfl rfl rfl rfl rfl rfl rfl rfl (fun ow_ ho_ => (.q rfl (by first | exact QW.load_box 2 ty31 (.tmp rfl) ho_ rfl rfl | exact QW.load_box 2 ty31 (.tmp rfl) ho_ (take_at (ScT.cs_len _) rfl) (ScT.cs_len _)))) ?_
    refine JX.f 3 [37] rfl rfl rfl rfl rfl rfl rfl rfl (fun ow_ => (.q rfl (QW.call gofn10 (.cons (.tmp rfl) .nil) (of15_ok hw)))) ?_
    refine JX.f 4 [36, 38] rfl rfl rfl rfl rfl rfl rfl rfl (fun ow_ => (.q rfl (QW.call gofn11 (.cons (.tmp rfl) (.cons (.tmp rfl) (.cons .const .nil))) (hev)))) ?_
    refine JX.f 5 [39] rfl rfl rfl rfl rfl rfl rfl rfl (fun ow_ => (.q rfl (QW.move (.tmp rfl)))) ?_
    refine JX.f 6 [34] rfl rfl rfl rfl rfl rfl rfl rfl (fun ow_ => (.q rfl (QW.extract (.tmp rfl) rfl))) ?_
    refine JX.f 7 [34] rfl rfl rfl rfl rfl rfl rfl rfl (fun ow_ => (.q rfl (QW.extract (.tmp rfl) rfl))) ?_
    refine JX.f 8 [34] rfl rfl rfl rfl rfl rfl rfl rfl (fun ow_ => (.q rfl (QW.extract (.tmp rfl) rfl))) ?_
    refine JX.a 9 rfl (AllocOp.mk z29 rfl) rfl rfl rfl rfl rfl ?_
    refine JX.one 10 [true, false, false, true, true, true, true, true, true, true] rfl (by kernel_rfl) (by kernel_rfl) rfl rfl (by kernel_rfl) rfl fun bs10_ pe_ ex_ => ?_
    refine JL.conv (by (try simp only [vlF, bxF, tkM, lvM, Flt.val, Flt.bx, List.append_assoc, List.take_succ_cons, List.take_zero, List.append_eq, id_eq, stepsO, List.map_cons, List.map_nil, valO, nthO, curO, mrg, List.reverse_cons, List.reverse_nil, List.nil_append, List.cons_append, List.append_nil, List.getElem?_cons_zero, List.getElem?_cons_succ, Option.map_some, Option.getD_some, List.set_cons_zero, List.set_cons_succ, AV.cellsOf, splice_zero, splice_succ, Nat.zero_add, Nat.reduceAdd]); rfl) ?_
    first | refine JL.store_boxF 5 ty29 (.tmp rfl) rfl (.tmp rfl) (by first | rfl | assumption) (by first | rfl | exact V.cs_length _ _) (by first | rfl | exact V.cs_length _ _) rfl ?_ | refine JL.store_box 5 ty29 (.tmp rfl) rfl (.tmp rfl) (by first | rfl | assumption) (by first | rfl | exact V.cs_length _ _) rfl rfl rfl ?_
    refine JL.nil ?_
    refine thenQ.n ⟨[], _, rfl, rfl, rfl, rfl, rfl, Reown.tkN 6 rfl, trivial, ⟨trivial, ⟨trivial, trivial⟩⟩, ?_⟩
    refine JX.conv (S' := [10, 9, 6, 5, 4, 3, 2, 1, 0]) rfl (by (try simp only [lvM]); rfl) (by (try simp only [vlF, bxF, tkM, lvM, Flt.val, Flt.bx, List.append_assoc, List.take_succ_cons, List.take_zero, List.append_eq, id_eq, stepsO, List.map_cons, List.map_nil, valO, nthO, curO, mrg, List.reverse_cons, List.reverse_nil, List.nil_append, List.cons_append, List.append_nil, List.getElem?_cons_zero, List.getElem?_cons_succ, Option.map_some, Option.getD_some, List.set_cons_zero, List.set_cons_succ, AV.cellsOf, splice_zero, splice_succ, Nat.zero_add, Nat.reduceAdd]); rfl) ?_
    refine JX.f 11 [41] rfl rfl rfl rfl rfl rfl rfl rfl (fun ow_ => (.q rfl (QW.assign (.tmp rfl)))) ?_
    refine JX.f 12 [42] rfl rfl rfl rfl rfl rfl rfl rfl (fun ow_ => (.q rfl (QW.assign (.tmp rfl)))) ?_
    refine JX.fin (by kernel_rfl) (by kernel_rfl) fun bs_ => ?_
    refine QX.conv (by (try simp only [vlF, bxF, tkM, lvM, Flt.val, Flt.bx, List.append_assoc, List.take_succ_cons, List.take_zero, List.append_eq, id_eq, stepsO, List.map_cons, List.map_nil, valO, nthO, curO, mrg, List.reverse_cons, List.reverse_nil, List.nil_append, List.cons_append, List.append_nil, List.getElem?_cons_zero, List.getElem?_cons_succ, Option.map_some, Option.getD_some, List.set_cons_zero, List.set_cons_succ, AV.cellsOf, splice_zero, splice_succ, Nat.zero_add, Nat.reduceAdd]); rfl) ?_
    refine thenQ.n ?_
    refine J.seq ?_
    refine J.regionX mixed ?_
    refine JX.o 0 0 [] rfl rfl rfl rfl rfl rfl rfl rfl rfl (fun ow_ ho_ => (.q rfl (by first | exact QW.load_box 0 ty25 (.tmp rfl) ho_ rfl rfl | exact QW.load_box 0 ty25 (.tmp rfl) ho_ (take_at (EX.cs_length _ _) rfl) (EX.cs_length _ _)))) ?_
    refine JX.f 1 [44] rfl rfl rfl rfl rfl rfl rfl rfl (fun ow_ => (.q rfl (QW.call gofn9 (.cons (.tmp rfl) .nil) (hofm)))) ?_
    refine JX.o 2 2 [] rfl rfl rfl rfl rfl rfl rfl rfl rfl (fun ow_ ho_ => (.q rfl (by first | exact QW.load_box 2 ty31 (.tmp rfl) ho_ rfl rfl | exact QW.load_box 2 ty31 (.tmp rfl) ho_ (take_at (ScT.cs_len _) rfl) (ScT.cs_len _)))) ?_
    refine JX.f 3 [46] rfl rfl rfl rfl rfl rfl rfl rfl (fun ow_ => (.q rfl (QW.call gofn10 (.cons (.tmp rfl) .nil) (of15_ok hw)))) ?_
    refine JX.f 4 [45, 47] rfl rfl rfl rfl rfl rfl rfl rfl (fun ow_ => (.q rfl (QW.call gofn11 (.cons (.tmp rfl) (.cons (.tmp rfl) (.cons .const .nil))) (hevm)))) ?_
    refine JX.f 5 [48] rfl rfl rfl rfl rfl rfl rfl rfl (fun ow_ => (.q rfl (QW.move (.tmp rfl)))) ?_
    refine JX.f 6 [43] rfl rfl rfl rfl rfl rfl rfl rfl (fun ow_ => (.q rfl (QW.extract (.tmp rfl) rfl))) ?_
    refine JX.f 7 [43] rfl rfl rfl rfl rfl rfl rfl rfl (fun ow_ => (.q rfl (QW.extract (.tmp rfl) rfl))) ?_
    refine JX.f 8 [43] rfl rfl rfl rfl rfl rfl rfl rfl (fun ow_ => (.q rfl (QW.extract (.tmp rfl) rfl))) ?_
    refine JX.a 9 rfl (AllocOp.mk z29 rfl) rfl rfl rfl rfl rfl ?_
    refine JX.one 10 [true, false, false, true, true, true, true, true, true, true] rfl (by kernel_rfl) (by kernel_rfl) rfl rfl (by kernel_rfl) rfl fun bs10_ pe_ ex_ => ?_
    refine JL.conv (by (try simp only [vlF, bxF, tkM, lvM, Flt.val, Flt.bx, List.append_assoc, List.take_succ_cons, List.take_zero, List.append_eq, id_eq, stepsO, List.map_cons, List.map_nil, valO, nthO, curO, mrg, List.reverse_cons, List.reverse_nil, List.nil_append, List.cons_append, List.append_nil, List.getElem?_cons_zero, List.getElem?_cons_succ, Option.map_some, Option.getD_some, List.set_cons_zero, List.set_cons_succ, AV.cellsOf, splice_zero, splice_succ, Nat.zero_add, Nat.reduceAdd]); rfl) ?_
    first | refine JL.store_boxF 6 ty29 (.tmp rfl) rfl (.tmp rfl) (by first | rfl | assumption) (by first | rfl | exact V.cs_length _ _) (by first | rfl | exact V.cs_length _ _) rfl ?_ | refine JL.store_box 6 ty29 (.tmp rfl) rfl (.tmp rfl) (by first | rfl | assumption) (by first | rfl | exact V.cs_length _ _) rfl rfl rfl ?_
    refine JL.nil ?_
    refine thenQ.n ⟨[], _, rfl, rfl, rfl, rfl, rfl, Reown.tkN 7 rfl, trivial, ⟨trivial, ⟨trivial, trivial⟩⟩, ?_⟩
    refine JX.conv (S' := [10, 9, 6, 5, 4, 3, 2, 1, 0]) rfl (by (try simp only [lvM]); rfl) (by (try simp only [vlF, bxF, tkM, lvM, Flt.val, Flt.bx, List.append_assoc, List.take_succ_cons, List.take_zero, List.append_eq, id_eq, stepsO, List.map_cons, List.map_nil, valO, nthO, curO, mrg, List.reverse_cons, List.reverse_nil, List.nil_append, List.cons_append, List.append_nil, List.getElem?_cons_zero, List.getElem?_cons_succ, Option.map_some, Option.getD_some, List.set_cons_zero, List.set_cons_succ, AV.cellsOf, splice_zero, splice_succ, Nat.zero_add, Nat.reduceAdd]); rfl) ?_
    refine JX.f 11 [50] rfl rfl rfl rfl rfl rfl rfl rfl (fun ow_ => (.q rfl (QW.assign (.tmp rfl)))) ?_
    refine JX.f 12 [51] rfl rfl rfl rfl rfl rfl rfl rfl (fun ow_ => (.q rfl (QW.assign (.tmp rfl)))) ?_
    refine JX.fin (by kernel_rfl) (by kernel_rfl) fun bs_ => ?_
    refine QX.conv (by (try simp only [vlF, bxF, tkM, lvM, Flt.val, Flt.bx, List.append_assoc, List.take_succ_cons, List.take_zero, List.append_eq, id_eq, stepsO, List.map_cons, List.map_nil, valO, nthO, curO, mrg, List.reverse_cons, List.reverse_nil, List.nil_append, List.cons_append, List.append_nil, List.getElem?_cons_zero, List.getElem?_cons_succ, Option.map_some, Option.getD_some, List.set_cons_zero, List.set_cons_succ, AV.cellsOf, splice_zero, splice_succ, Nat.zero_add, Nat.reduceAdd]); rfl) ?_
    refine thenQ.n ?_
    refine J.seq ?_
    refine J.region_lit ?_
    refine JL.q rfl rfl rfl (by first | exact QW.load_box 5 ty29 (.tmp rfl) rfl rfl rfl | exact QW.load_box 5 ty29 (.tmp rfl) rfl (take_at (V.cs_length _ _) rfl) (V.cs_length _ _)) ?_
    refine JL.q rfl rfl rfl (by first | exact QW.load_box 6 ty29 (.tmp rfl) rfl rfl rfl | exact QW.load_box 6 ty29 (.tmp rfl) rfl (take_at (V.cs_length _ _) rfl) (V.cs_length _ _)) ?_
    refine JL.q rfl rfl rfl (QW.call gofn13 (.cons (.tmp rfl) (.cons (.tmp rfl) .nil)) (hsm)) ?_
    refine JL.q rfl rfl rfl (QW.move (.tmp rfl)) ?_
    refine JL.g rfl rfl rfl rfl rfl (fun hg => (QW.move (.tmp rfl))) ?_
    refine JL.g rfl rfl rfl rfl rfl (fun hg => (QW.move (.tmp rfl))) ?_
    refine JL.g rfl rfl rfl rfl rfl (fun hg => (QW.eql (.when rfl hg) (.when rfl hg))) ?_
    refine JL.q rfl rfl rfl (QW.pick_and (.tmp rfl) (.tmp rfl)) ?_
    refine JL.q rfl rfl rfl (QW.move (.tmp rfl)) ?_
    refine JL.g rfl rfl rfl rfl rfl (fun hg => (QW.move (.tmp rfl))) ?_
    refine JL.g rfl rfl rfl rfl rfl (fun hg => (QW.move (.tmp rfl))) ?_
    refine JL.g rfl rfl rfl rfl rfl (fun hg => (QW.eql (.when rfl hg) (.when rfl hg))) ?_
    refine JL.q rfl rfl rfl (QW.pick_and (.tmp rfl) (.tmp rfl)) ?_
    refine JL.q rfl rfl rfl (QW.assign (.tmp rfl)) ?_
    refine JL.nil ?_
    refine thenQ.n ?_
    refine J.ret ?_
    exact ⟨_, selP [.k, .k, .k, .k, .k, .k, .k] _, _, RetEv.one rfl (REv.tmp rfl (.refl _)), rfl, sel_perm [.k, .k, .k, .k, .k, .k, .k] _, ⟨ret_b (by rw [hif]; simp [V.same_refl]), rfl⟩⟩
  obtain rfl : tr = false := by simpa using c2
  have hle := fun F => @ifE_le F v22 false (.mk oa ba ta la) (.mk oy by_ ty_ ly)
  have hck := ercheck_ok (fr := false) (v := ifE false (.mk oa ba ta la) (.mk oy by_ ty_ ly)) Xc.self (ifE_wf hwa hwy)
  have hof := of14_ok (fr := false) (v := ifE false (.mk oa ba ta la) (.mk oy by_ ty_ ly)) Xc.self (ifE_wf hwa hwy)
  have hev := eval_ok (fr := true) (e := ifE false (.mk oa ba ta la) (.mk oy by_ ty_ ly)) Xc.self (ifE_wf hwa hwy) hw (f := 3000) (by decide)
  have hwm : (EX.mk oy by_ ty_ ly).wf := hwy
  have hofm := of14_ok (fr := false) (v := EX.mk oy by_ ty_ ly) Xc.self hwm
  have hevm := eval_ok (fr := true) (e := EX.mk oy by_ ty_ ly) Xc.self hwm hw (f := 2998) (by decide)
  obtain ⟨w1, -, -⟩ := evalT_wf (ifE_wf (t := false) hwa hwy) hw 3000
  obtain ⟨w2, -, -⟩ := evalT_wf hwm hw 2998
  have hsm := sameValue_ok (fr := true) (fr2 := true) (v := (evalT (ifE false (.mk oa ba ta la) (.mk oy by_ ty_ ly)) s 3000).1) (u := (evalT (EX.mk oy by_ ty_ ly) s 2998).1) Vc.self Vc.self w1 w2
  refine J.skip ?_
  refine thenQ.n ?_
  refine J.seq ?_
  refine J.seq ?_
  refine J.closeArr 5 rfl (by show 3 * 56 ≤ reach; decide) rfl (fun _ h => by cases h) ?_
  refine J.region_lit ?_
  refine JL.q rfl rfl rfl (by first | exact QW.load_box 1 ty25 (.tmp rfl) rfl rfl rfl | exact QW.load_box 1 ty25 (.tmp rfl) rfl (take_at (EX.cs_length _ _) rfl) (EX.cs_length _ _)) ?_
  refine JL.q rfl rfl rfl (QW.call gofn19 (.cons (Ev.le (.tmp rfl) (hle _ List.mem_cons_self)) .nil) (hck)) ?_
  refine JL.q rfl rfl rfl (QW.neq (.tmp rfl) .const) ?_
  refine JL.nil ?_
  refine thenQ.n ?_
  refine J.cond (.tmp rfl) (fun c3 => ?_) (fun c3 => ?_)
  · skip
    refine J.seq ?_
    refine J.region_lit ?_
    refine JL.q rfl rfl rfl (QW.assign .const) ?_
    refine JL.nil ?_
    refine thenQ.n ?_
    refine J.ret ?_
    refine thenQ.r ?_
    exact ⟨_, selP [.k, .k, .k, .k, .k] _, _, RetEv.one rfl (REv.tmp rfl (.refl _)), rfl, sel_perm [.k, .k, .k, .k, .k] _, ⟨rfl, rfl⟩⟩
  have hif := evalT_if (t := false) (a := .mk oa ba ta la) (y := .mk oy by_ ty_ ly) (s := s) (by simpa using c3)
  refine J.skip ?_
  refine thenQ.n ?_
  refine J.seq ?_
  refine J.regionX mixed ?_
  refine JX.o 0 1 [] rfl rfl rfl rfl rfl rfl rfl rfl rfl (fun ow_ ho_ => (.q rfl (by first | exact QW.load_box 1 ty25 (.tmp rfl) ho_ rfl rfl | exact QW.load_box 1 ty25 (.tmp rfl) ho_ (take_at (EX.cs_length _ _) rfl) (EX.cs_length _ _)))) ?_
  refine JX.f 1 [35] rfl rfl rfl rfl rfl rfl rfl rfl (fun ow_ => (.q rfl (QW.call gofn9 (.cons (Ev.le (.tmp rfl) (hle _ List.mem_cons_self)) .nil) (hof)))) ?_
  refine JX.o 2 2 [] rfl rfl rfl rfl rfl rfl rfl rfl rfl (fun ow_ ho_ => (.q rfl (by first | exact QW.load_box 2 ty31 (.tmp rfl) ho_ rfl rfl | exact QW.load_box 2 ty31 (.tmp rfl) ho_ (take_at (ScT.cs_len _) rfl) (ScT.cs_len _)))) ?_
  refine JX.f 3 [37] rfl rfl rfl rfl rfl rfl rfl rfl (fun ow_ => (.q rfl (QW.call gofn10 (.cons (.tmp rfl) .nil) (of15_ok hw)))) ?_
  refine JX.f 4 [36, 38] rfl rfl rfl rfl rfl rfl rfl rfl (fun ow_ => (.q rfl (QW.call gofn11 (.cons (.tmp rfl) (.cons (.tmp rfl) (.cons .const .nil))) (hev)))) ?_
  refine JX.f 5 [39] rfl rfl rfl rfl rfl rfl rfl rfl (fun ow_ => (.q rfl (QW.move (.tmp rfl)))) ?_
  refine JX.f 6 [34] rfl rfl rfl rfl rfl rfl rfl rfl (fun ow_ => (.q rfl (QW.extract (.tmp rfl) rfl))) ?_
  refine JX.f 7 [34] rfl rfl rfl rfl rfl rfl rfl rfl (fun ow_ => (.q rfl (QW.extract (.tmp rfl) rfl))) ?_
  refine JX.f 8 [34] rfl rfl rfl rfl rfl rfl rfl rfl (fun ow_ => (.q rfl (QW.extract (.tmp rfl) rfl))) ?_
  refine JX.a 9 rfl (AllocOp.mk z29 rfl) rfl rfl rfl rfl rfl ?_
  refine JX.one 10 [true, false, false, true, true, true, true, true, true, true] rfl (by kernel_rfl) (by kernel_rfl) rfl rfl (by kernel_rfl) rfl fun bs10_ pe_ ex_ => ?_
  refine JL.conv (by (try simp only [vlF, bxF, tkM, lvM, Flt.val, Flt.bx, List.append_assoc, List.take_succ_cons, List.take_zero, List.append_eq, id_eq, stepsO, List.map_cons, List.map_nil, valO, nthO, curO, mrg, List.reverse_cons, List.reverse_nil, List.nil_append, List.cons_append, List.append_nil, List.getElem?_cons_zero, List.getElem?_cons_succ, Option.map_some, Option.getD_some, List.set_cons_zero, List.set_cons_succ, AV.cellsOf, splice_zero, splice_succ, Nat.zero_add, Nat.reduceAdd]); rfl) ?_
  first | refine JL.store_boxF 5 ty29 (.tmp rfl) rfl (.tmp rfl) (by first | rfl | assumption) (by first | rfl | exact V.cs_length _ _) (by first | rfl | exact V.cs_length _ _) rfl ?_ | refine JL.store_box 5 ty29 (.tmp rfl) rfl (.tmp rfl) (by first | rfl | assumption) (by first | rfl | exact V.cs_length _ _) rfl rfl rfl ?_
  refine JL.nil ?_
  refine thenQ.n ⟨[], _, rfl, rfl, rfl, rfl, rfl, Reown.tkN 6 rfl, trivial, ⟨trivial, ⟨trivial, trivial⟩⟩, ?_⟩
  refine JX.conv (S' := [10, 9, 6, 5, 4, 3, 2, 1, 0]) rfl (by (try simp only [lvM]); rfl) (by (try simp only [vlF, bxF, tkM, lvM, Flt.val, Flt.bx, List.append_assoc, List.take_succ_cons, List.take_zero, List.append_eq, id_eq, stepsO, List.map_cons, List.map_nil, valO, nthO, curO, mrg, List.reverse_cons, List.reverse_nil, List.nil_append, List.cons_append, List.append_nil, List.getElem?_cons_zero, List.getElem?_cons_succ, Option.map_some, Option.getD_some, List.set_cons_zero, List.set_cons_succ, AV.cellsOf, splice_zero, splice_succ, Nat.zero_add, Nat.reduceAdd]); rfl) ?_
  refine JX.f 11 [41] rfl rfl rfl rfl rfl rfl rfl rfl (fun ow_ => (.q rfl (QW.assign (.tmp rfl)))) ?_
  refine JX.f 12 [42] rfl rfl rfl rfl rfl rfl rfl rfl (fun ow_ => (.q rfl (QW.assign (.tmp rfl)))) ?_
  refine JX.fin (by kernel_rfl) (by kernel_rfl) fun bs_ => ?_
  refine QX.conv (by (try simp only [vlF, bxF, tkM, lvM, Flt.val, Flt.bx, List.append_assoc, List.take_succ_cons, List.take_zero, List.append_eq, id_eq, stepsO, List.map_cons, List.map_nil, valO, nthO, curO, mrg, List.reverse_cons, List.reverse_nil, List.nil_append, List.cons_append, List.append_nil, List.getElem?_cons_zero, List.getElem?_cons_succ, Option.map_some, Option.getD_some, List.set_cons_zero, List.set_cons_succ, AV.cellsOf, splice_zero, splice_succ, Nat.zero_add, Nat.reduceAdd]); rfl) ?_
  refine thenQ.n ?_
  refine J.seq ?_
  refine J.regionX mixed ?_
  refine JX.o 0 0 [] rfl rfl rfl rfl rfl rfl rfl rfl rfl (fun ow_ ho_ => (.q rfl (by first | exact QW.load_box 0 ty25 (.tmp rfl) ho_ rfl rfl | exact QW.load_box 0 ty25 (.tmp rfl) ho_ (take_at (EX.cs_length _ _) rfl) (EX.cs_length _ _)))) ?_
  refine JX.f 1 [44] rfl rfl rfl rfl rfl rfl rfl rfl (fun ow_ => (.q rfl (QW.call gofn9 (.cons (.tmp rfl) .nil) (hofm)))) ?_
  refine JX.o 2 2 [] rfl rfl rfl rfl rfl rfl rfl rfl rfl (fun ow_ ho_ => (.q rfl (by first | exact QW.load_box 2 ty31 (.tmp rfl) ho_ rfl rfl | exact QW.load_box 2 ty31 (.tmp rfl) ho_ (take_at (ScT.cs_len _) rfl) (ScT.cs_len _)))) ?_
  refine JX.f 3 [46] rfl rfl rfl rfl rfl rfl rfl rfl (fun ow_ => (.q rfl (QW.call gofn10 (.cons (.tmp rfl) .nil) (of15_ok hw)))) ?_
  refine JX.f 4 [45, 47] rfl rfl rfl rfl rfl rfl rfl rfl (fun ow_ => (.q rfl (QW.call gofn11 (.cons (.tmp rfl) (.cons (.tmp rfl) (.cons .const .nil))) (hevm)))) ?_
  refine JX.f 5 [48] rfl rfl rfl rfl rfl rfl rfl rfl (fun ow_ => (.q rfl (QW.move (.tmp rfl)))) ?_
  refine JX.f 6 [43] rfl rfl rfl rfl rfl rfl rfl rfl (fun ow_ => (.q rfl (QW.extract (.tmp rfl) rfl))) ?_
  refine JX.f 7 [43] rfl rfl rfl rfl rfl rfl rfl rfl (fun ow_ => (.q rfl (QW.extract (.tmp rfl) rfl))) ?_
  refine JX.f 8 [43] rfl rfl rfl rfl rfl rfl rfl rfl (fun ow_ => (.q rfl (QW.extract (.tmp rfl) rfl))) ?_
  refine JX.a 9 rfl (AllocOp.mk z29 rfl) rfl rfl rfl rfl rfl ?_
  refine JX.one 10 [true, false, false, true, true, true, true, true, true, true] rfl (by kernel_rfl) (by kernel_rfl) rfl rfl (by kernel_rfl) rfl fun bs10_ pe_ ex_ => ?_
  refine JL.conv (by (try simp only [vlF, bxF, tkM, lvM, Flt.val, Flt.bx, List.append_assoc, List.take_succ_cons, List.take_zero, List.append_eq, id_eq, stepsO, List.map_cons, List.map_nil, valO, nthO, curO, mrg, List.reverse_cons, List.reverse_nil, List.nil_append, List.cons_append, List.append_nil, List.getElem?_cons_zero, List.getElem?_cons_succ, Option.map_some, Option.getD_some, List.set_cons_zero, List.set_cons_succ, AV.cellsOf, splice_zero, splice_succ, Nat.zero_add, Nat.reduceAdd]); rfl) ?_
  first | refine JL.store_boxF 6 ty29 (.tmp rfl) rfl (.tmp rfl) (by first | rfl | assumption) (by first | rfl | exact V.cs_length _ _) (by first | rfl | exact V.cs_length _ _) rfl ?_ | refine JL.store_box 6 ty29 (.tmp rfl) rfl (.tmp rfl) (by first | rfl | assumption) (by first | rfl | exact V.cs_length _ _) rfl rfl rfl ?_
  refine JL.nil ?_
  refine thenQ.n ⟨[], _, rfl, rfl, rfl, rfl, rfl, Reown.tkN 7 rfl, trivial, ⟨trivial, ⟨trivial, trivial⟩⟩, ?_⟩
  refine JX.conv (S' := [10, 9, 6, 5, 4, 3, 2, 1, 0]) rfl (by (try simp only [lvM]); rfl) (by (try simp only [vlF, bxF, tkM, lvM, Flt.val, Flt.bx, List.append_assoc, List.take_succ_cons, List.take_zero, List.append_eq, id_eq, stepsO, List.map_cons, List.map_nil, valO, nthO, curO, mrg, List.reverse_cons, List.reverse_nil, List.nil_append, List.cons_append, List.append_nil, List.getElem?_cons_zero, List.getElem?_cons_succ, Option.map_some, Option.getD_some, List.set_cons_zero, List.set_cons_succ, AV.cellsOf, splice_zero, splice_succ, Nat.zero_add, Nat.reduceAdd]); rfl) ?_
  refine JX.f 11 [50] rfl rfl rfl rfl rfl rfl rfl rfl (fun ow_ => (.q rfl (QW.assign (.tmp rfl)))) ?_
  refine JX.f 12 [51] rfl rfl rfl rfl rfl rfl rfl rfl (fun ow_ => (.q rfl (QW.assign (.tmp rfl)))) ?_
  refine JX.fin (by kernel_rfl) (by kernel_rfl) fun bs_ => ?_
  refine QX.conv (by (try simp only [vlF, bxF, tkM, lvM, Flt.val, Flt.bx, List.append_assoc, List.take_succ_cons, List.take_zero, List.append_eq, id_eq, stepsO, List.map_cons, List.map_nil, valO, nthO, curO, mrg, List.reverse_cons, List.reverse_nil, List.nil_append, List.cons_append, List.append_nil, List.getElem?_cons_zero, List.getElem?_cons_succ, Option.map_some, Option.getD_some, List.set_cons_zero, List.set_cons_succ, AV.cellsOf, splice_zero, splice_succ, Nat.zero_add, Nat.reduceAdd]); rfl) ?_
  refine thenQ.n ?_
  refine J.seq ?_
  refine J.region_lit ?_
  refine JL.q rfl rfl rfl (by first | exact QW.load_box 5 ty29 (.tmp rfl) rfl rfl rfl | exact QW.load_box 5 ty29 (.tmp rfl) rfl (take_at (V.cs_length _ _) rfl) (V.cs_length _ _)) ?_
  refine JL.q rfl rfl rfl (by first | exact QW.load_box 6 ty29 (.tmp rfl) rfl rfl rfl | exact QW.load_box 6 ty29 (.tmp rfl) rfl (take_at (V.cs_length _ _) rfl) (V.cs_length _ _)) ?_
  refine JL.q rfl rfl rfl (QW.call gofn13 (.cons (.tmp rfl) (.cons (.tmp rfl) .nil)) (hsm)) ?_
  refine JL.q rfl rfl rfl (QW.move (.tmp rfl)) ?_
  refine JL.g rfl rfl rfl rfl rfl (fun hg => (QW.move (.tmp rfl))) ?_
  refine JL.g rfl rfl rfl rfl rfl (fun hg => (QW.move (.tmp rfl))) ?_
  refine JL.g rfl rfl rfl rfl rfl (fun hg => (QW.eql (.when rfl hg) (.when rfl hg))) ?_
  refine JL.q rfl rfl rfl (QW.pick_and (.tmp rfl) (.tmp rfl)) ?_
  refine JL.q rfl rfl rfl (QW.move (.tmp rfl)) ?_
  refine JL.g rfl rfl rfl rfl rfl (fun hg => (QW.move (.tmp rfl))) ?_
  refine JL.g rfl rfl rfl rfl rfl (fun hg => (QW.move (.tmp rfl))) ?_
  refine JL.g rfl rfl rfl rfl rfl (fun hg => (QW.eql (.when rfl hg) (.when rfl hg))) ?_
  refine JL.q rfl rfl rfl (QW.pick_and (.tmp rfl) (.tmp rfl)) ?_
  refine JL.q rfl rfl rfl (QW.assign (.tmp rfl)) ?_
  refine JL.nil ?_
  refine thenQ.n ?_
  refine J.ret ?_
  exact ⟨_, selP [.k, .k, .k, .k, .k, .k, .k] _, _, RetEv.one rfl (REv.tmp rfl (.refl _)), rfl, sel_perm [.k, .k, .k, .k, .k, .k, .k] _, ⟨ret_b (by rw [hif]; simp [V.same_refl]), rfl⟩⟩
end Go.Proofs.YtjhonjdhanlbkaaGreat.J

