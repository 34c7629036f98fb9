/- Walks: QueueTells, QueueRefuses. -/
import Derived.Test.YtkiankpmkglhcaaWq6
namespace Go.Proofs.Ytkiankpmkglhcaa.J
open Go Go.RowKit
set_option linter.unusedVariables false
set_option linter.unusedSimpArgs false
set_option maxRecDepth 10000
set_option maxHeartbeats 4000000

theorem QT.nil_wf : QT.nil.wf := ⟨by decide, by decide, EvT.wfs_nil⟩
theorem QT.push_wf {q : QT} {e : EvT} (hw : q.wf) (he : e.wf) : (q.push e).1.wf := by
  unfold QT.push
  split
  · exact QT.nil_wf
  · rename_i hok
    obtain ⟨o1, o2, o3, o4, o5, -⟩ := QT.ok_inv (q := q) (by simpa using hok)
    split
    · exact QT.nil_wf
    · split
      · exact QT.nil_wf
      · exact ⟨hw.l1, by simp only; omega, hw.ev.snoc he (by omega)⟩
theorem QT.take_wf {q : QT} {n : Int} (hw : q.wf) : (q.take n).1.wf ∧ EvT.wfs (q.take n).2.1 := by
  unfold QT.take
  split
  · exact ⟨QT.nil_wf, EvT.wfs_nil⟩
  · split
    · exact ⟨QT.nil_wf, EvT.wfs_nil⟩
    · exact ⟨⟨hw.l1, hw.l2, hw.ev.drop _⟩, hw.ev.take _⟩

theorem QT.push_no {q : QT} {e : EvT} (hok : q.ok = true) (h : (decide (1 ≤ (e.name.length : Int)) && decide ((e.name.length : Int) ≤ 16) && e.arg.err == 0 && !q.full && decide (q.last < 1099511627776)) = false) : (q.push e).2.2 ≠ 0 ∧ (q.push e).2.1 = 0 ∧ (q.push e).1 = .nil := by
  unfold QT.push
  rw [if_neg (by simp [hok])]
  split
  · rename_i h1; exact ⟨h1, rfl, rfl⟩
  · rename_i h1
    split
    · exact ⟨by decide, rfl, rfl⟩
    · rename_i h2
      exfalso
      have h3 : nameOk e.name = true ∧ e.arg.err = 0 := by unfold evErr at h1; split at h1 <;> simp_all
      have h4 : q.full = false := by unfold QT.full; simp only [hok, Bool.true_and]; simp; omega
      have o := QT.ok_inv hok
      rw [h4, h3.2] at h
      unfold nameOk keyOk at h3
      simp at h3 h
      omega
theorem QT.push_yes {q : QT} {e : EvT} (hok : q.ok = true) (h : (decide (1 ≤ (e.name.length : Int)) && decide ((e.name.length : Int) ≤ 16) && e.arg.err == 0 && !q.full && decide (q.last < 1099511627776)) = true) : q.push e = (⟨q.limit, q.last + 1, q.events ++ [e]⟩, q.last + 1, 0) := by
  simp only [Bool.and_eq_true, decide_eq_true_eq, Bool.not_eq_true', beq_iff_eq] at h
  obtain ⟨⟨⟨⟨h1, h2⟩, h3⟩, h4⟩, h5⟩ := h
  unfold QT.full at h4
  rw [hok] at h4
  simp at h4
  unfold QT.push
  rw [if_neg (by simp [hok]), if_neg, if_neg (by omega)]
  unfold evErr nameOk keyOk
  simp [h3]
  omega

theorem QT.cs_length (fr : Bool) : ∀ q : QT, (q.cs fr).length = 3
  | ⟨_, _, _⟩ => rfl

theorem queueTells_ok {q : QT} {e : EvT} {n : Int} (hw : q.wf) (hwe : e.wf) : Fn Try.prog 12 [.agg (q.cs false), .agg (e.cs false), .c (.int .i64 n)] (.c (.bool true)) := by
  obtain ⟨nm, v⟩ := e
  have hv := hwe.arg
  simp only at hv
  have hpw := QT.push_wf hw hwe
  have htw := (QT.take_wf (n := n) hw).1
  have htl := (QT.take_wf (n := n) hw).2
  refine AC.of_J Try.func12 rfl Try.ntmps12 rfl fun w0 A0 => ?_
  refine J.seq ?_
  refine J.region_lit ?_
  refine JL.box_agg (.tmp rfl) rfl fun b3 => ?_
  refine JL.box_agg (.tmp rfl) rfl fun b4 => ?_
  refine JL.q rfl rfl rfl (QW.assign .const) ?_
  refine JL.nil ?_
  refine thenQ.n ?_
  refine J.seq ?_
  refine J.region_outAK 7 0 (fun _ _ _ _ => False) mixed (by kernel_rfl) (by kernel_rfl) (by kernel_rfl) rfl ?_
  refine OutA.quiet [] rfl rfl rfl (fun qs_ ex_ qv_ ql_ => by
      rcases qs_ with _ | ⟨⟨y0, p0⟩, qs_⟩
      · skip
        exact (.q rfl (by first | exact QW.load_box 1 ty61 (.tmp rfl) rfl rfl rfl | exact QW.load_box 1 ty61 (.tmp rfl) rfl (take_at (QT.cs_length _ _) rfl) (QT.cs_length _ _)))
      exact absurd ql_ (by simp)) ?_
  refine OutA.quiet [27] rfl rfl rfl (fun qs_ ex_ qv_ ql_ => (.q rfl (QW.call gofn45 (.cons (.tmp rfl) .nil) (of18_ok (q := q) Qc.self hw)))) ?_
  refine OutA.quiet [] rfl rfl rfl (fun qs_ ex_ qv_ ql_ => (.q rfl (QW.field_ptr fo70_1 (.tmp rfl) rfl))) ?_
  refine OutA.quiet [29] rfl rfl rfl (fun qs_ ex_ qv_ ql_ => by
      rcases qs_ with _ | ⟨⟨y0, p0⟩, qs_⟩
      · skip
        exact (.q rfl (by first | exact QW.load_box 0 ty26 (.tmp rfl) rfl rfl rfl | exact QW.load_box 0 ty26 (.tmp rfl) rfl (take_at (V.cs_length _ _) rfl) (V.cs_length _ _)))
      exact absurd ql_ (by simp)) ?_
  refine OutA.quiet [30] rfl rfl rfl (fun qs_ ex_ qv_ ql_ => (.q rfl (QW.call gofn20 (.cons (.tmp rfl) .nil) (copyValue_rd (by first | exact Vc.self | exact Vc.mk) (by assumption))))) ?_
  refine OutA.alloc (AllocOp.mk z58 rfl) rfl ?_
  refine OutA.alloc (AllocOp.mk z26 rfl) rfl ?_
  refine .nil fun qs_ bs_ qv_ ql_ => ?_
  obtain rfl : qs_ = [] := List.length_eq_zero_iff.1 ql_
  refine JL.conv (by (try simp only [stepsO, List.map_cons, List.map_nil, valO, nthO, curO, mrg, List.reverse_cons, List.reverse_nil, List.nil_append, List.cons_append, List.append_nil, List.getElem?_cons_zero, List.getElem?_cons_succ, Option.map_some, Option.getD_some, List.set_cons_zero, List.set_cons_succ, AV.cellsOf, splice_zero, splice_succ, Nat.zero_add, Nat.reduceAdd, alE, alO]); rfl) ?_
  first | refine JL.store_boxF 2 ty58 (.tmp rfl) rfl (.tmp rfl) (by first | rfl | assumption) (rfl) (rfl) rfl ?_ | refine JL.store_boxF 2 ty58 (.tmp rfl) rfl (.tmp rfl) (by first | rfl | assumption) (rfl) (QT.cs_length _ _) rfl ?_ | refine JL.store_boxF 2 ty58 (.tmp rfl) rfl (.tmp rfl) (by first | rfl | assumption) (QT.cs_length _ _) (rfl) rfl ?_ | refine JL.store_boxF 2 ty58 (.tmp rfl) rfl (.tmp rfl) (by first | rfl | assumption) (QT.cs_length _ _) (QT.cs_length _ _) rfl ?_ | refine JL.store_box 2 ty58 (.tmp rfl) rfl (.tmp rfl) (by first | rfl | assumption) rfl rfl rfl rfl ?_ | refine JL.store_box 2 ty58 (.tmp rfl) rfl (.tmp rfl) (by first | rfl | assumption) (QT.cs_length _ _) rfl rfl rfl ?_
  first | refine JL.store_boxF 3 ty26 (.tmp rfl) rfl (.tmp rfl) (by first | rfl | assumption) (rfl) (rfl) rfl ?_ | refine JL.store_boxF 3 ty26 (.tmp rfl) rfl (.tmp rfl) (by first | rfl | assumption) (rfl) (V.cs_length _ _) rfl ?_ | refine JL.store_boxF 3 ty26 (.tmp rfl) rfl (.tmp rfl) (by first | rfl | assumption) (V.cs_length _ _) (rfl) rfl ?_ | refine JL.store_boxF 3 ty26 (.tmp rfl) rfl (.tmp rfl) (by first | rfl | assumption) (V.cs_length _ _) (V.cs_length _ _) rfl ?_ | refine JL.store_box 3 ty26 (.tmp rfl) rfl (.tmp rfl) (by first | rfl | assumption) rfl rfl rfl rfl ?_ | refine JL.store_box 3 ty26 (.tmp rfl) rfl (.tmp rfl) (by first | rfl | assumption) (V.cs_length _ _) rfl rfl rfl ?_
  refine JL.nil ?_
  refine thenQ.n ?_
  refine J.seq ?_
  refine J.region_lit ?_
  refine JL.q rfl rfl rfl (by first | exact QW.load_box 2 ty58 (.tmp rfl) rfl rfl rfl | exact QW.load_box 2 ty58 (.tmp rfl) rfl (take_at (QT.cs_length _ _) rfl) (QT.cs_length _ _)) ?_
  refine JL.q rfl rfl rfl (QW.field_ptr fo70_0 (.tmp rfl) rfl) ?_
  refine JL.q rfl rfl rfl (QW.load_box1 0 ty9 (.tmp rfl) rfl rfl) ?_
  refine JL.q rfl rfl rfl (by first | exact QW.load_box 3 ty26 (.tmp rfl) rfl rfl rfl | exact QW.load_box 3 ty26 (.tmp rfl) rfl (take_at (V.cs_length _ _) rfl) (V.cs_length _ _)) ?_
  refine JL.q rfl rfl rfl (QW.build (idx := [0, 1]) pl70 z70 rfl (.cons (.tmp rfl) (.cons (.tmp rfl) .nil)) rfl rfl rfl (by exact fill_ev (V.cs_length _ _))) ?_
  refine JL.q rfl rfl rfl (QW.call gofn42 (.cons (.tmp rfl) (.cons (.tmp rfl) .nil)) (qpush_ok (q := q) (e := ⟨nm, v⟩) Qc.self (by first | exact Ec.mk2 Vc.self | exact Ec.self | exact Ec.mk) hw hwe)) ?_
  refine JL.q rfl rfl rfl (QW.move (.tmp rfl)) ?_
  refine JL.q rfl rfl rfl (QW.extract (.tmp rfl) rfl) ?_
  refine JL.q rfl rfl rfl (QW.extract (.tmp rfl) rfl) ?_
  refine JL.q rfl rfl rfl (QW.extract (.tmp rfl) rfl) ?_
  refine JL.alloc z58 rfl rfl fun b9 => ?_
  first | refine JL.store_boxF 0 ty58 (.tmp rfl) rfl (.tmp rfl) (by first | rfl | assumption) (rfl) (rfl) rfl ?_ | refine JL.store_boxF 0 ty58 (.tmp rfl) rfl (.tmp rfl) (by first | rfl | assumption) (rfl) (QT.cs_length _ _) rfl ?_ | refine JL.store_boxF 0 ty58 (.tmp rfl) rfl (.tmp rfl) (by first | rfl | assumption) (QT.cs_length _ _) (rfl) rfl ?_ | refine JL.store_boxF 0 ty58 (.tmp rfl) rfl (.tmp rfl) (by first | rfl | assumption) (QT.cs_length _ _) (QT.cs_length _ _) rfl ?_ | refine JL.store_box 0 ty58 (.tmp rfl) rfl (.tmp rfl) (by first | rfl | assumption) rfl rfl rfl rfl ?_ | refine JL.store_box 0 ty58 (.tmp rfl) rfl (.tmp rfl) (by first | rfl | assumption) (QT.cs_length _ _) rfl rfl rfl ?_
  refine JL.q rfl rfl rfl (QW.assign (.tmp rfl)) ?_
  refine JL.q rfl rfl rfl (QW.assign (.tmp rfl)) ?_
  refine JL.nil ?_
  refine thenQ.n ?_
  refine J.seq ?_
  refine J.region_lit ?_
  refine JL.q rfl rfl rfl (by first | exact QW.load_box 2 ty61 (.tmp rfl) rfl rfl rfl | exact QW.load_box 2 ty61 (.tmp rfl) rfl (take_at (QT.cs_length _ _) rfl) (QT.cs_length _ _)) ?_
  refine JL.q rfl rfl rfl (by first | exact QW.load_box 1 ty70 (.tmp rfl) rfl rfl rfl | exact QW.load_box 1 ty70 (.tmp rfl) rfl (take_at (EvT.cs_length _ _) rfl) (EvT.cs_length _ _)) ?_
  refine JL.q rfl rfl rfl (QW.call gofn46 (.cons (.tmp rfl) (.cons (.tmp rfl) .nil)) (rqpush_ok (q := q) (e := ⟨nm, v⟩) Qc.self Ec.self hw hwe)) ?_
  refine JL.q rfl rfl rfl (QW.move (.tmp rfl)) ?_
  refine JL.q rfl rfl rfl (QW.extract (.tmp rfl) rfl) ?_
  refine JL.q rfl rfl rfl (QW.extract (.tmp rfl) rfl) ?_
  refine JL.q rfl rfl rfl (QW.extract (.tmp rfl) rfl) ?_
  refine JL.alloc z61 rfl rfl fun b12 => ?_
  first | refine JL.store_boxF 0 ty61 (.tmp rfl) rfl (.tmp rfl) (by first | rfl | assumption) (rfl) (rfl) rfl ?_ | refine JL.store_boxF 0 ty61 (.tmp rfl) rfl (.tmp rfl) (by first | rfl | assumption) (rfl) (QT.cs_length _ _) rfl ?_ | refine JL.store_boxF 0 ty61 (.tmp rfl) rfl (.tmp rfl) (by first | rfl | assumption) (QT.cs_length _ _) (rfl) rfl ?_ | refine JL.store_boxF 0 ty61 (.tmp rfl) rfl (.tmp rfl) (by first | rfl | assumption) (QT.cs_length _ _) (QT.cs_length _ _) rfl ?_ | refine JL.store_box 0 ty61 (.tmp rfl) rfl (.tmp rfl) (by first | rfl | assumption) rfl rfl rfl rfl ?_ | refine JL.store_box 0 ty61 (.tmp rfl) rfl (.tmp rfl) (by first | rfl | assumption) (QT.cs_length _ _) rfl rfl rfl ?_
  refine JL.q rfl rfl rfl (QW.assign (.tmp rfl)) ?_
  refine JL.q rfl rfl rfl (QW.assign (.tmp rfl)) ?_
  refine JL.nil ?_
  refine thenQ.n ?_
  refine J.seq ?_
  refine J.region_lit ?_
  refine JL.q rfl rfl rfl (by first | exact QW.load_box 4 ty58 (.tmp rfl) rfl rfl rfl | exact QW.load_box 4 ty58 (.tmp rfl) rfl (take_at (QT.cs_length _ _) rfl) (QT.cs_length _ _)) ?_
  refine JL.q rfl rfl rfl (QW.move (.tmp rfl)) ?_
  refine JL.q rfl rfl rfl (QW.call gofn43 (.cons (.tmp rfl) (.cons (.tmp rfl) .nil)) (qtake_ok (q := q) Qc.self n hw)) ?_
  refine JL.q rfl rfl rfl (QW.move (.tmp rfl)) ?_
  refine JL.q rfl rfl rfl (QW.extract (.tmp rfl) rfl) ?_
  refine JL.q rfl rfl rfl (QW.extract (.tmp rfl) rfl) ?_
  refine JL.q rfl rfl rfl (QW.extract (.tmp rfl) rfl) ?_
  refine JL.q rfl rfl rfl (QW.extract (.tmp rfl) rfl) ?_
  refine JL.alloc z58 rfl rfl fun b15 => ?_
  first | refine JL.store_boxF 0 ty58 (.tmp rfl) rfl (.tmp rfl) (by first | rfl | assumption) (rfl) (rfl) rfl ?_ | refine JL.store_boxF 0 ty58 (.tmp rfl) rfl (.tmp rfl) (by first | rfl | assumption) (rfl) (QT.cs_length _ _) rfl ?_ | refine JL.store_boxF 0 ty58 (.tmp rfl) rfl (.tmp rfl) (by first | rfl | assumption) (QT.cs_length _ _) (rfl) rfl ?_ | refine JL.store_boxF 0 ty58 (.tmp rfl) rfl (.tmp rfl) (by first | rfl | assumption) (QT.cs_length _ _) (QT.cs_length _ _) rfl ?_ | refine JL.store_box 0 ty58 (.tmp rfl) rfl (.tmp rfl) (by first | rfl | assumption) rfl rfl rfl rfl ?_ | refine JL.store_box 0 ty58 (.tmp rfl) rfl (.tmp rfl) (by first | rfl | assumption) (QT.cs_length _ _) rfl rfl rfl ?_
  refine JL.q rfl rfl rfl (QW.assign (.tmp rfl)) ?_
  refine JL.q rfl rfl rfl (QW.assign (.tmp rfl)) ?_
  refine JL.q rfl rfl rfl (QW.assign (.tmp rfl)) ?_
  refine JL.nil ?_
  refine thenQ.n ?_
  refine J.seq ?_
  refine J.region_lit ?_
  refine JL.q rfl rfl rfl (by first | exact QW.load_box 4 ty61 (.tmp rfl) rfl rfl rfl | exact QW.load_box 4 ty61 (.tmp rfl) rfl (take_at (QT.cs_length _ _) rfl) (QT.cs_length _ _)) ?_
  refine JL.q rfl rfl rfl (QW.move (.tmp rfl)) ?_
  refine JL.q rfl rfl rfl (QW.call gofn47 (.cons (.tmp rfl) (.cons (.tmp rfl) .nil)) (rqtake_ok (q := q) Qc.self n hw)) ?_
  refine JL.q rfl rfl rfl (QW.move (.tmp rfl)) ?_
  refine JL.q rfl rfl rfl (QW.extract (.tmp rfl) rfl) ?_
  refine JL.q rfl rfl rfl (QW.extract (.tmp rfl) rfl) ?_
  refine JL.q rfl rfl rfl (QW.extract (.tmp rfl) rfl) ?_
  refine JL.q rfl rfl rfl (QW.extract (.tmp rfl) rfl) ?_
  refine JL.alloc z61 rfl rfl fun b19 => ?_
  first | refine JL.store_boxF 0 ty61 (.tmp rfl) rfl (.tmp rfl) (by first | rfl | assumption) (rfl) (rfl) rfl ?_ | refine JL.store_boxF 0 ty61 (.tmp rfl) rfl (.tmp rfl) (by first | rfl | assumption) (rfl) (QT.cs_length _ _) rfl ?_ | refine JL.store_boxF 0 ty61 (.tmp rfl) rfl (.tmp rfl) (by first | rfl | assumption) (QT.cs_length _ _) (rfl) rfl ?_ | refine JL.store_boxF 0 ty61 (.tmp rfl) rfl (.tmp rfl) (by first | rfl | assumption) (QT.cs_length _ _) (QT.cs_length _ _) rfl ?_ | refine JL.store_box 0 ty61 (.tmp rfl) rfl (.tmp rfl) (by first | rfl | assumption) rfl rfl rfl rfl ?_ | refine JL.store_box 0 ty61 (.tmp rfl) rfl (.tmp rfl) (by first | rfl | assumption) (QT.cs_length _ _) rfl rfl rfl ?_
  refine JL.q rfl rfl rfl (QW.assign (.tmp rfl)) ?_
  refine JL.q rfl rfl rfl (QW.assign (.tmp rfl)) ?_
  refine JL.q rfl rfl rfl (QW.assign (.tmp rfl)) ?_
  refine JL.nil ?_
  refine thenQ.n ?_
  refine J.seq ?_
  refine J.region_lit ?_
  refine JL.q rfl rfl rfl (by first | exact QW.load_box 6 ty58 (.tmp rfl) rfl rfl rfl | exact QW.load_box 6 ty58 (.tmp rfl) rfl (take_at (QT.cs_length _ _) rfl) (QT.cs_length _ _)) ?_
  refine JL.q rfl rfl rfl (QW.call gofn48 (.cons (.tmp rfl) .nil) (qfull_ok (q := q) Qc.self hw)) ?_
  refine JL.q rfl rfl rfl (QW.move (.tmp rfl)) ?_
  refine JL.q rfl rfl rfl (QW.extract (.tmp rfl) rfl) ?_
  refine JL.q rfl rfl rfl (QW.extract (.tmp rfl) rfl) ?_
  refine JL.q rfl rfl rfl (QW.assign (.tmp rfl)) ?_
  refine JL.q rfl rfl rfl (QW.assign (.tmp rfl)) ?_
  refine JL.nil ?_
  refine thenQ.n ?_
  refine J.seq ?_
  refine J.region_lit ?_
  refine JL.q rfl rfl rfl (by first | exact QW.load_box 5 ty61 (.tmp rfl) rfl rfl rfl | exact QW.load_box 5 ty61 (.tmp rfl) rfl (take_at (QT.cs_length _ _) rfl) (QT.cs_length _ _)) ?_
  refine JL.q rfl rfl rfl (QW.call gofn49 (.cons (.tmp rfl) .nil) (rqfull_ok (q := q) Qc.self hw)) ?_
  refine JL.q rfl rfl rfl (QW.move (.tmp rfl)) ?_
  refine JL.q rfl rfl rfl (QW.extract (.tmp rfl) rfl) ?_
  refine JL.q rfl rfl rfl (QW.extract (.tmp rfl) rfl) ?_
  refine JL.q rfl rfl rfl (QW.assign (.tmp rfl)) ?_
  refine JL.q rfl rfl rfl (QW.assign (.tmp rfl)) ?_
  refine JL.nil ?_
  refine thenQ.n ?_
  refine J.seq ?_
  refine J.seq ?_
  refine J.region_lit ?_
  refine JL.q rfl rfl rfl (by first | exact QW.load_box 3 ty58 (.tmp rfl) rfl rfl rfl | exact QW.load_box 3 ty58 (.tmp rfl) rfl (take_at (QT.cs_length _ _) rfl) (QT.cs_length _ _)) ?_
  refine JL.q rfl rfl rfl (by first | exact QW.load_box 2 ty61 (.tmp rfl) rfl rfl rfl | exact QW.load_box 2 ty61 (.tmp rfl) rfl (take_at (QT.cs_length _ _) rfl) (QT.cs_length _ _)) ?_
  refine JL.q rfl rfl rfl (QW.call gofn39 (.cons (.tmp rfl) (.cons (.tmp rfl) .nil)) (alike18_ok Qc.self Qc.self hpw hpw)) ?_
  refine JL.q rfl rfl rfl (QW.neq (.tmp rfl) .const) ?_
  refine JL.q rfl rfl rfl (QW.move (.tmp rfl)) ?_
  refine JL.g rfl rfl rfl rfl rfl (fun hg => (QW.move (.tmp rfl))) ?_
  refine JL.g rfl rfl rfl rfl rfl (fun hg => (QW.move (.tmp rfl))) ?_
  refine JL.g rfl rfl rfl rfl rfl (fun hg => (QW.neq (.when rfl hg) (.when rfl hg))) ?_
  refine JL.q rfl rfl rfl (QW.pick_or (.tmp rfl) (.tmp rfl)) ?_
  refine JL.q rfl rfl rfl (QW.move (.tmp rfl)) ?_
  refine JL.g rfl rfl rfl rfl rfl (fun hg => (QW.move (.tmp rfl))) ?_
  refine JL.g rfl rfl rfl rfl rfl (fun hg => (QW.call gofn40 (.cons (.when rfl hg) .nil) (num18_ok _))) ?_
  refine JL.g rfl rfl rfl rfl rfl (fun hg => (QW.move (.tmp rfl))) ?_
  refine JL.g rfl rfl rfl rfl rfl (fun hg => (QW.neq (.when rfl hg) (.when rfl hg))) ?_
  refine JL.q rfl rfl rfl (QW.pick_or (.tmp rfl) (.tmp rfl)) ?_
  refine JL.q rfl rfl rfl (QW.move (.tmp rfl)) ?_
  refine JL.g rfl rfl rfl rfl rfl (fun hg => (by first | exact QW.load_box 1 ty58 (.tmp rfl) rfl rfl rfl | exact QW.load_box 1 ty58 (.tmp rfl) rfl (take_at (QT.cs_length _ _) rfl) (QT.cs_length _ _))) ?_
  refine JL.g rfl rfl rfl rfl rfl (fun hg => (by first | exact QW.load_box 0 ty61 (.tmp rfl) rfl rfl rfl | exact QW.load_box 0 ty61 (.tmp rfl) rfl (take_at (QT.cs_length _ _) rfl) (QT.cs_length _ _))) ?_
  refine JL.g rfl rfl rfl rfl rfl (fun hg => (QW.call gofn39 (.cons (.when rfl hg) (.cons (.when rfl hg) .nil)) (alike18_ok Qc.self Qc.self htw htw))) ?_
  refine JL.g rfl rfl rfl rfl rfl (fun hg => (QW.neq (.when rfl hg) .const)) ?_
  refine JL.q rfl rfl rfl (QW.pick_or (.tmp rfl) (.tmp rfl)) ?_
  refine JL.q rfl rfl rfl (QW.move (.tmp rfl)) ?_
  refine JL.g rfl rfl rfl rfl rfl (fun hg => (QW.move (.tmp rfl))) ?_
  refine JL.g rfl rfl rfl rfl rfl (fun hg => (QW.move (.tmp rfl))) ?_
  refine JL.g rfl rfl rfl rfl rfl (fun hg => (QW.call gofn44 (.cons (.when rfl hg) (.cons (.when rfl hg) .nil)) (sameEvents_ok htl htl))) ?_
  refine JL.g rfl rfl rfl rfl rfl (fun hg => (QW.not (.when rfl hg))) ?_
  refine JL.q rfl rfl rfl (QW.pick_or (.tmp rfl) (.tmp rfl)) ?_
  refine JL.q rfl rfl rfl (QW.move (.tmp rfl)) ?_
  refine JL.g rfl rfl rfl rfl rfl (fun hg => (QW.move (.tmp rfl))) ?_
  refine JL.g rfl rfl rfl rfl rfl (fun hg => (QW.move (.tmp rfl))) ?_
  refine JL.g rfl rfl rfl rfl rfl (fun hg => (QW.neq (.when rfl hg) (.when rfl hg))) ?_
  refine JL.q rfl rfl rfl (QW.pick_or (.tmp rfl) (.tmp rfl)) ?_
  refine JL.q rfl rfl rfl (QW.move (.tmp rfl)) ?_
  refine JL.g rfl rfl rfl rfl rfl (fun hg => (QW.move (.tmp rfl))) ?_
  refine JL.g rfl rfl rfl rfl rfl (fun hg => (QW.call gofn40 (.cons (.when rfl hg) .nil) (num18_ok _))) ?_
  refine JL.g rfl rfl rfl rfl rfl (fun hg => (QW.move (.tmp rfl))) ?_
  refine JL.g rfl rfl rfl rfl rfl (fun hg => (QW.neq (.when rfl hg) (.when rfl hg))) ?_
  refine JL.q rfl rfl rfl (QW.pick_or (.tmp rfl) (.tmp rfl)) ?_
  refine JL.q rfl rfl rfl (QW.move (.tmp rfl)) ?_
  refine JL.g rfl rfl rfl rfl rfl (fun hg => (QW.move (.tmp rfl))) ?_
  refine JL.g rfl rfl rfl rfl rfl (fun hg => (QW.move (.tmp rfl))) ?_
  refine JL.g rfl rfl rfl rfl rfl (fun hg => (QW.neq_b bo4 (.when rfl hg) (.when rfl hg))) ?_
  refine JL.q rfl rfl rfl (QW.pick_or (.tmp rfl) (.tmp rfl)) ?_
  refine JL.q rfl rfl rfl (QW.move (.tmp rfl)) ?_
  refine JL.g rfl rfl rfl rfl rfl (fun hg => (QW.move (.tmp rfl))) ?_
  refine JL.g rfl rfl rfl rfl rfl (fun hg => (QW.call gofn40 (.cons (.when rfl hg) .nil) (num18_ok _))) ?_
  refine JL.g rfl rfl rfl rfl rfl (fun hg => (QW.move (.tmp rfl))) ?_
  refine JL.g rfl rfl rfl rfl rfl (fun hg => (QW.neq (.when rfl hg) (.when rfl hg))) ?_
  refine JL.q rfl rfl rfl (QW.pick_or (.tmp rfl) (.tmp rfl)) ?_
  refine JL.nil ?_
  refine thenQ.n ?_
  refine J.cond (.tmp rfl) (fun c1 => ?_) (fun c1 => ?_)
  · skip
    exact absurd c1 (by simp)
    --closed
  · skip
    refine J.skip ?_
    refine thenQ.n ?_
    refine J.seq ?_
    refine J.region_tailK 16 mixed (by kernel_rfl) (by kernel_rfl) (by kernel_rfl) rfl ?_
    refine .cons [] rfl rfl rfl (.q rfl (by first | exact QW.load_box 6 ty58 (.tmp rfl) rfl rfl rfl | exact QW.load_box 6 ty58 (.tmp rfl) rfl (take_at (QT.cs_length _ _) rfl) (QT.cs_length _ _))) ?_
    refine .cons [124] rfl rfl rfl (.q rfl (QW.call gofn50 (.cons (.tmp rfl) .nil) (qcheck_ok (q := q) Qc.self hw))) ?_
    refine .cons [125] rfl rfl rfl (.q rfl (QW.call gofn40 (.cons (.tmp rfl) .nil) (num18_ok _))) ?_
    refine .cons [] rfl rfl rfl (.q rfl (by first | exact QW.load_box 5 ty61 (.tmp rfl) rfl rfl rfl | exact QW.load_box 5 ty61 (.tmp rfl) rfl (take_at (QT.cs_length _ _) rfl) (QT.cs_length _ _))) ?_
    refine .cons [127] rfl rfl rfl (.q rfl (QW.call gofn51 (.cons (.tmp rfl) .nil) (rqcheck_ok (q := q) Qc.self hw))) ?_
    refine .cons [126, 128] rfl rfl rfl (.q rfl (QW.eql (.tmp rfl) (.tmp rfl))) ?_
    refine .cons [129] rfl rfl rfl (.q rfl (QW.move (.tmp rfl))) ?_
    refine .cons [130] rfl rfl rfl (.g rfl rfl rfl (fun hg => (by first | exact QW.load_box 6 ty58 (.tmp rfl) rfl rfl rfl | exact QW.load_box 6 ty58 (.tmp rfl) rfl (take_at (QT.cs_length _ _) rfl) (QT.cs_length _ _)))) ?_
    refine .cons [130] rfl rfl rfl (.g rfl rfl rfl (fun hg => (by first | exact QW.load_box 5 ty61 (.tmp rfl) rfl rfl rfl | exact QW.load_box 5 ty61 (.tmp rfl) rfl (take_at (QT.cs_length _ _) rfl) (QT.cs_length _ _)))) ?_
    refine .cons [131, 132, 130] rfl rfl rfl (.g rfl rfl rfl (fun hg => (QW.call gofn39 (.cons (.when rfl hg) (.cons (.when rfl hg) .nil)) (alike18_ok (by first | exact Qc.self | exact Qc.mk) (by first | exact Qc.self | exact Qc.mk) (by assumption) (by assumption))))) ?_
    refine .cons [133, 130] rfl rfl rfl (.g rfl rfl rfl (fun hg => (QW.eql (.when rfl hg) .const))) ?_
    refine .cons [130, 134] rfl rfl rfl (.q rfl (QW.pick_and (.tmp rfl) (.tmp rfl))) ?_
    refine .cons [135] rfl rfl rfl (.q rfl (QW.move (.tmp rfl))) ?_
    refine .cons [136] rfl rfl rfl (.g rfl rfl rfl (fun hg => (by first | exact QW.load_box 7 ty26 (.tmp rfl) rfl rfl rfl | exact QW.load_box 7 ty26 (.tmp rfl) rfl (take_at (V.cs_length _ _) rfl) (V.cs_length _ _)))) ?_
    refine .cons [136] rfl rfl rfl (.g rfl rfl rfl (fun hg => (QW.field_ptr fo70_1 (.tmp rfl) rfl))) ?_
    refine .cons [138, 136] rfl rfl rfl (.g rfl rfl rfl (fun hg => (by first | exact QW.load_box 4 ty26 (.when rfl hg) rfl rfl rfl | exact QW.load_box 4 ty26 (.when rfl hg) rfl (take_at (V.cs_length _ _) rfl) (V.cs_length _ _)))) ?_
    refine .nil ?_
    refine JL.g rfl rfl rfl rfl rfl (fun hg => (QW.call gofn26 (.cons (.when rfl hg) (.cons (.when rfl hg) .nil)) (sameValue_ok (by first | exact Vc.self | exact Vc.mk) (by first | exact Vc.self | exact Vc.mk) (by assumption) (by assumption)))) ?_
    refine JL.q rfl rfl rfl (QW.pick_and (.tmp rfl) (.tmp rfl)) ?_
    refine JL.q rfl rfl rfl (QW.move (.tmp rfl)) ?_
    refine JL.g rfl rfl rfl rfl rfl (fun hg => (QW.call gofn41 .nil (alive18_ok))) ?_
    refine JL.q rfl rfl rfl (QW.pick_and (.tmp rfl) (.tmp rfl)) ?_
    refine JL.q rfl rfl rfl (QW.assign (.tmp rfl)) ?_
    refine JL.nil ?_
    refine thenQ.n ?_
    refine J.ret ?_
    exact ⟨_, selP [.k, .k, .k, .k, .k, .k, .k, .k] _, _, RetEv.one rfl (REv.tmp rfl (.refl _)), rfl, sel_perm [.k, .k, .k, .k, .k, .k, .k, .k] _, ⟨ret_b (by simp [V.same_refl]), rfl⟩⟩

theorem queueRefuses_ok {q : QT} {e : EvT} (hw : q.wf) (hwe : e.wf) : Fn Try.prog 13 [.agg (q.cs false), .agg (e.cs false)] (.c (.bool true)) := by
  obtain ⟨nm, v⟩ := e
  have hv := hwe.arg
  simp only at hv
  have hpw := QT.push_wf hw hwe
  obtain ⟨lim, la, l⟩ := q
  have hl2 := hw.l2
  simp only at hl2
  refine AC.of_J Try.func13 rfl Try.ntmps13 rfl fun w0 A0 => ?_
  refine J.seq ?_
  refine J.region_lit ?_
  refine JL.box_agg (.tmp rfl) rfl fun b2 => ?_
  refine JL.box_agg (.tmp rfl) rfl fun b3 => ?_
  refine JL.q rfl rfl rfl (QW.assign .const) ?_
  refine JL.nil ?_
  refine thenQ.n ?_
  refine J.seq ?_
  refine J.seq ?_
  refine J.region_lit ?_
  refine JL.q rfl rfl rfl (QW.call gofn41 .nil (alive18_ok)) ?_
  refine JL.q rfl rfl rfl (QW.not (.tmp rfl)) ?_
  refine JL.nil ?_
  refine thenQ.n ?_
  refine J.cond (.tmp rfl) (fun c1 => ?_) (fun c1 => ?_)
  · skip
    exact absurd c1 (by simp)
    --closed
  · skip
    skip
    refine J.skip ?_
    refine thenQ.n ?_
    refine J.seq ?_
    refine J.region_outK 11 2 (fun os_ ow_ x_ o_ => match os_ with | [] => (∃ b_, x_ = .c (.pointer (some ⟨b_, 0, none⟩)) ∧ o_ = ow_ ++ [.box b_ ([.int .i64 0, .int .i64 0, .slice none 0 0].map AV.c)]) | [(x0_, _)] => (∃ b_, x0_ = .c (.pointer (some ⟨b_, 0, none⟩)) ∧ x_ = .c undef ∧ o_ = ow_.set 2 (.box b_ ((QT.push ⟨lim, la, l⟩ ⟨nm, v⟩).1.cs true))) | _ => False) mixed (by kernel_rfl) (by kernel_rfl) (by kernel_rfl) rfl ?_
    refine OutK.quiet [] rfl rfl rfl (fun qs_ qv_ ql_ => by
        rcases qs_ with _ | ⟨⟨y0, p0⟩, qs_⟩
        · skip
          exact (.q rfl (by first | exact QW.load_box 1 ty61 (.tmp rfl) rfl rfl rfl | exact QW.load_box 1 ty61 (.tmp rfl) rfl (take_at (QT.cs_length _ _) rfl) (QT.cs_length _ _)))
        rcases qs_ with _ | ⟨⟨y1, p1⟩, qs_⟩
        · skip
          obtain ⟨hr0, _⟩ := qv_
          obtain ⟨b5, rfl, rfl⟩ := hr0
          exact (.q rfl (by first | exact QW.load_box 1 ty61 (.tmp rfl) rfl rfl rfl | exact QW.load_box 1 ty61 (.tmp rfl) rfl (take_at (QT.cs_length _ _) rfl) (QT.cs_length _ _)))
        rcases qs_ with _ | ⟨⟨y2, p2⟩, qs_⟩
        · skip
          obtain ⟨hr1, hr0, _⟩ := qv_
          obtain ⟨b5, rfl, rfl⟩ := hr0
          obtain ⟨_, ⟨⟩, rfl, rfl⟩ := hr1
          exact (.q rfl (by first | exact QW.load_box 1 ty61 (.tmp rfl) rfl rfl rfl | exact QW.load_box 1 ty61 (.tmp rfl) rfl (take_at (QT.cs_length _ _) rfl) (QT.cs_length _ _)))
        exact absurd ql_ (by simp)) ?_
    refine OutK.quiet [14] rfl rfl rfl (fun qs_ qv_ ql_ => (.q rfl (QW.call gofn45 (.cons (.tmp rfl) .nil) (of18_ok (q := ⟨lim, la, l⟩) Qc.self hw)))) ?_
    refine OutK.quiet [] rfl rfl rfl (fun qs_ qv_ ql_ => by
        rcases qs_ with _ | ⟨⟨y0, p0⟩, qs_⟩
        · skip
          exact (.q rfl (by first | exact QW.load_box 0 ty70 (.tmp rfl) rfl rfl rfl | exact QW.load_box 0 ty70 (.tmp rfl) rfl (take_at (EvT.cs_length _ _) rfl) (EvT.cs_length _ _)))
        rcases qs_ with _ | ⟨⟨y1, p1⟩, qs_⟩
        · skip
          obtain ⟨hr0, _⟩ := qv_
          obtain ⟨b5, rfl, rfl⟩ := hr0
          exact (.q rfl (by first | exact QW.load_box 0 ty70 (.tmp rfl) rfl rfl rfl | exact QW.load_box 0 ty70 (.tmp rfl) rfl (take_at (EvT.cs_length _ _) rfl) (EvT.cs_length _ _)))
        rcases qs_ with _ | ⟨⟨y2, p2⟩, qs_⟩
        · skip
          obtain ⟨hr1, hr0, _⟩ := qv_
          obtain ⟨b5, rfl, rfl⟩ := hr0
          obtain ⟨_, ⟨⟩, rfl, rfl⟩ := hr1
          exact (.q rfl (by first | exact QW.load_box 0 ty70 (.tmp rfl) rfl rfl rfl | exact QW.load_box 0 ty70 (.tmp rfl) rfl (take_at (EvT.cs_length _ _) rfl) (EvT.cs_length _ _)))
        exact absurd ql_ (by simp)) ?_
    refine OutK.quiet [15, 16] rfl rfl rfl (fun qs_ qv_ ql_ => (.q rfl (QW.call gofn42 (.cons (.tmp rfl) (.cons (.tmp rfl) .nil)) (qpush_ok (q := ⟨lim, la, l⟩) (e := ⟨nm, v⟩) Qc.self (by first | exact Ec.mk2 Vc.self | exact Ec.self | exact Ec.mk) hw hwe)))) ?_
    refine OutK.quiet [17] rfl rfl rfl (fun qs_ qv_ ql_ => (.q rfl (QW.move (.tmp rfl)))) ?_
    refine OutK.quiet [13] rfl rfl rfl (fun qs_ qv_ ql_ => (.q rfl (QW.extract (.tmp rfl) rfl))) ?_
    refine OutK.quiet [13] rfl rfl rfl (fun qs_ qv_ ql_ => (.q rfl (QW.extract (.tmp rfl) rfl))) ?_
    refine OutK.quiet [13] rfl rfl rfl (fun qs_ qv_ ql_ => (.q rfl (QW.extract (.tmp rfl) rfl))) ?_
    refine OutK.loud [] rfl rfl rfl rfl rfl (fun qs_ qv_ ql_ => by
        obtain rfl : qs_ = [] := List.length_eq_zero_iff.1 ql_
        exact LStepR.alloc (d := 5) z58 rfl) ?_
    refine OutK.store [5, 18] rfl (fun qs_ ow x o h ql_ => by
        obtain ⟨⟨y0, p0⟩, qs_, rfl⟩ : ∃ p t, qs_ = p :: t := by (cases qs_ with | nil => simp at ql_ | cons p t => exact ⟨p, t, rfl⟩)
        obtain rfl : qs_ = [] := List.length_eq_zero_iff.1 (by simpa using ql_)
        exact h.elim fun _ h => h.2.1) rfl rfl rfl (fun qs_ qv_ ql_ => by
        obtain ⟨⟨y0, p0⟩, qs_, rfl⟩ : ∃ p t, qs_ = p :: t := by (cases qs_ with | nil => simp at ql_ | cons p t => exact ⟨p, t, rfl⟩)
        obtain rfl : qs_ = [] := List.length_eq_zero_iff.1 (by simpa using ql_)
        obtain ⟨hr0, _⟩ := qv_
        obtain ⟨b5, rfl, rfl⟩ := hr0
        exact LStep.toR rfl (by first | exact LStep.store_boxF 2 ty58 (.tmp rfl) rfl (.tmp rfl) (by first | rfl | assumption) (rfl) (rfl) rfl | exact LStep.store_boxF 2 ty58 (.tmp rfl) rfl (.tmp rfl) (by first | rfl | assumption) (rfl) (QT.cs_length _ _) rfl | exact LStep.store_boxF 2 ty58 (.tmp rfl) rfl (.tmp rfl) (by first | rfl | assumption) (QT.cs_length _ _) (rfl) rfl | exact LStep.store_boxF 2 ty58 (.tmp rfl) rfl (.tmp rfl) (by first | rfl | assumption) (QT.cs_length _ _) (QT.cs_length _ _) rfl | exact LStep.store_box 2 ty58 (.tmp rfl) rfl (.tmp rfl) (by first | rfl | assumption) rfl rfl rfl rfl | exact LStep.store_box 2 ty58 (.tmp rfl) rfl (.tmp rfl) (by first | rfl | assumption) (QT.cs_length _ _) rfl rfl rfl) ⟨_, rfl, rfl, rfl⟩) ?_
    refine OutK.quiet [19] rfl rfl rfl (fun qs_ qv_ ql_ => (.q rfl (QW.assign (.tmp rfl)))) ?_
    refine .nil fun qs_ qv_ ql_ => ?_
    obtain ⟨⟨y1, p1⟩, qs_, rfl⟩ : ∃ p t, qs_ = p :: t := by (cases qs_ with | nil => simp at ql_ | cons p t => exact ⟨p, t, rfl⟩)
    simp only [List.length_cons, Nat.add_right_cancel_iff] at ql_
    obtain ⟨⟨y0, p0⟩, qs_, rfl⟩ : ∃ p t, qs_ = p :: t := by (cases qs_ with | nil => simp at ql_ | cons p t => exact ⟨p, t, rfl⟩)
    obtain rfl : qs_ = [] := List.length_eq_zero_iff.1 (by simpa using ql_)
    obtain ⟨hr1, hr0, _⟩ := qv_
    obtain ⟨b5, rfl, rfl⟩ := hr0
    obtain ⟨_, ⟨⟩, rfl, rfl⟩ := hr1
    refine JL.conv (by (try simp only [stepsO, List.map_cons, List.map_nil, valO, nthO, curO, mrg, List.reverse_cons, List.reverse_nil, List.nil_append, List.cons_append, List.append_nil, List.getElem?_cons_zero, List.getElem?_cons_succ, Option.map_some, Option.getD_some, List.set_cons_zero, List.set_cons_succ, AV.cellsOf, splice_zero, splice_succ, Nat.zero_add, Nat.reduceAdd]); rfl) ?_
    refine JL.q rfl rfl rfl (QW.assign (.tmp rfl)) ?_
    refine JL.nil ?_
    refine thenQ.n ?_
    refine J.seq ?_
    refine J.region_lit ?_
    refine JL.q rfl rfl rfl (by first | exact QW.load_box 1 ty61 (.tmp rfl) rfl rfl rfl | exact QW.load_box 1 ty61 (.tmp rfl) rfl (take_at (QT.cs_length _ _) rfl) (QT.cs_length _ _)) ?_
    refine JL.q rfl rfl rfl (QW.call gofn45 (.cons (.tmp rfl) .nil) (of18_ok (q := ⟨lim, la, l⟩) Qc.self hw)) ?_
    refine JL.q rfl rfl rfl (QW.call gofn48 (.cons (.tmp rfl) .nil) (qfull_ok (q := ⟨lim, la, l⟩) Qc.self hw)) ?_
    refine JL.q rfl rfl rfl (QW.move (.tmp rfl)) ?_
    refine JL.q rfl rfl rfl (QW.extract (.tmp rfl) rfl) ?_
    refine JL.q rfl rfl rfl (QW.extract (.tmp rfl) rfl) ?_
    refine JL.q rfl rfl rfl (QW.assign (.tmp rfl)) ?_
    refine JL.q rfl rfl rfl (QW.assign (.tmp rfl)) ?_
    refine JL.nil ?_
    refine thenQ.n ?_
    refine J.seq ?_
    refine J.region_lit ?_
    refine JL.q rfl rfl rfl (QW.field_ptr fo70_0 (.tmp rfl) rfl) ?_
    refine JL.q rfl rfl rfl (QW.load_box1 0 ty9 (.tmp rfl) rfl rfl) ?_
    refine JL.q rfl rfl rfl (QW.len_s st9 (.tmp rfl)) ?_
    refine JL.q rfl rfl rfl (QW.geq (.tmp rfl) .const) ?_
    refine JL.q rfl rfl rfl (QW.move (.tmp rfl)) ?_
    refine JL.g rfl rfl rfl rfl rfl (fun hg => (QW.field_ptr fo70_0 (.tmp rfl) rfl)) ?_
    refine JL.g rfl rfl rfl rfl rfl (fun hg => (QW.load_box1 0 ty9 (.when rfl hg) rfl rfl)) ?_
    refine JL.g rfl rfl rfl rfl rfl (fun hg => (QW.len_s st9 (.when rfl hg))) ?_
    refine JL.g rfl rfl rfl rfl rfl (fun hg => (QW.leq (.when rfl hg) .const)) ?_
    refine JL.q rfl rfl rfl (QW.pick_and (.tmp rfl) (.tmp rfl)) ?_
    refine JL.q rfl rfl rfl (QW.move (.tmp rfl)) ?_
    refine JL.g rfl rfl rfl rfl rfl (fun hg => (QW.field_ptr fo70_1 (.tmp rfl) rfl)) ?_
    refine JL.g rfl rfl rfl rfl rfl (fun hg => (by first | exact QW.load_box 0 ty26 (.when rfl hg) rfl rfl rfl | exact QW.load_box 0 ty26 (.when rfl hg) rfl (take_at (V.cs_length _ _) rfl) (V.cs_length _ _))) ?_
    refine JL.g rfl rfl rfl rfl rfl (fun hg => (QW.call gofn24 (.cons (.when rfl hg) .nil) (check_ok (by first | exact Vc.self | exact Vc.mk) (by assumption)))) ?_
    refine JL.g rfl rfl rfl rfl rfl (fun hg => (QW.call gofn40 (.cons (.when rfl hg) .nil) (num18_ok _))) ?_
    refine JL.g rfl rfl rfl rfl rfl (fun hg => (QW.eql (.when rfl hg) .const)) ?_
    refine JL.q rfl rfl rfl (QW.pick_and (.tmp rfl) (.tmp rfl)) ?_
    refine JL.q rfl rfl rfl (QW.assign (.tmp rfl)) ?_
    refine JL.nil ?_
    refine thenQ.n ?_
    refine J.seq ?_
    refine J.seq ?_
    refine J.region_lit ?_
    refine JL.q rfl rfl rfl (by first | exact QW.load_box 1 ty61 (.tmp rfl) rfl rfl rfl | exact QW.load_box 1 ty61 (.tmp rfl) rfl (take_at (QT.cs_length _ _) rfl) (QT.cs_length _ _)) ?_
    refine JL.q rfl rfl rfl (QW.call gofn51 (.cons (.tmp rfl) .nil) (rqcheck_ok (q := ⟨lim, la, l⟩) Qc.self hw)) ?_
    refine JL.q rfl rfl rfl (QW.neq (.tmp rfl) .const) ?_
    refine JL.nil ?_
    refine thenQ.n ?_
    refine J.cond (.tmp rfl) (fun c2 => ?_) (fun c2 => ?_)
    · skip
      simp at c2
      obtain ⟨hno, he9⟩ := QT.err_no c2
      refine J.seq ?_
      refine J.region_lit ?_
      refine JL.q rfl rfl rfl (QW.move (.tmp rfl)) ?_
      refine JL.q rfl rfl rfl (QW.call gofn40 (.cons (.tmp rfl) .nil) (num18_ok _)) ?_
      refine JL.q rfl rfl rfl (QW.eql (.tmp rfl) .const) ?_
      refine JL.q rfl rfl rfl (QW.move (.tmp rfl)) ?_
      refine JL.g rfl rfl rfl rfl rfl (fun hg => (QW.move (.tmp rfl))) ?_
      refine JL.g rfl rfl rfl rfl rfl (fun hg => (QW.call gofn40 (.cons (.when rfl hg) .nil) (num18_ok _))) ?_
      refine JL.g rfl rfl rfl rfl rfl (fun hg => (QW.eql (.when rfl hg) .const)) ?_
      refine JL.q rfl rfl rfl (QW.pick_and (.tmp rfl) (.tmp rfl)) ?_
      refine JL.q rfl rfl rfl (QW.assign (.tmp rfl)) ?_
      refine JL.nil ?_
      refine thenQ.n ?_
      refine J.ret ?_
      refine thenQ.r ?_
      exact ⟨_, selP [.k, .k, .k] _, _, RetEv.one rfl (REv.tmp rfl (.refl _)), rfl, sel_perm [.k, .k, .k] _, ⟨ret_b (by simp [QT.push, hno, he9]), rfl⟩⟩
    · skip
      simp at c2
      have hok := QT.err_ok.1 c2
      obtain ⟨o1, o2, o3, o4, o5, -⟩ := QT.ok_inv hok
      simp only at o1 o2 o3 o4 o5
      refine J.skip ?_
      refine thenQ.n ?_
      refine J.seq ?_
      refine J.seq ?_
      refine J.region_lit ?_
      refine JL.q rfl rfl rfl (QW.move (.tmp rfl)) ?_
      refine JL.q rfl rfl rfl (QW.move (.tmp rfl)) ?_
      refine JL.g rfl rfl rfl rfl rfl (fun hg => (QW.move (.tmp rfl))) ?_
      refine JL.g rfl rfl rfl rfl rfl (fun hg => (QW.not (.when rfl hg))) ?_
      refine JL.q rfl rfl rfl (QW.pick_and (.tmp rfl) (.tmp rfl)) ?_
      refine JL.q rfl rfl rfl (QW.move (.tmp rfl)) ?_
      refine JL.g rfl rfl rfl rfl rfl (fun hg => (QW.field_ptr fo61_1 (.tmp rfl) rfl)) ?_
      refine JL.g rfl rfl rfl rfl rfl (fun hg => (QW.load_box1 1 ty3 (.when rfl hg) rfl rfl)) ?_
      refine JL.g rfl rfl rfl rfl rfl (fun hg => (QW.lss (.when rfl hg) .const)) ?_
      refine JL.q rfl rfl rfl (QW.pick_and (.tmp rfl) (.tmp rfl)) ?_
      refine JL.nil ?_
      refine thenQ.n ?_
      refine J.cond (.tmp rfl) (fun c3 => ?_) (fun c3 => ?_)
      · skip
        refine J.seq ?_
        refine J.region_lit ?_
        refine JL.q rfl rfl rfl (QW.move (.tmp rfl)) ?_
        refine JL.q rfl rfl rfl (QW.call gofn40 (.cons (.tmp rfl) .nil) (num18_ok _)) ?_
        refine JL.q rfl rfl rfl (QW.eql (.tmp rfl) .const) ?_
        refine JL.q rfl rfl rfl (QW.move (.tmp rfl)) ?_
        refine JL.g rfl rfl rfl rfl rfl (fun hg => (QW.move (.tmp rfl))) ?_
        refine JL.g rfl rfl rfl rfl rfl (fun hg => (QW.field_ptr fo61_1 (.tmp rfl) rfl)) ?_
        refine JL.g rfl rfl rfl rfl rfl (fun hg => (QW.load_box1 1 ty3 (.when rfl hg) rfl rfl)) ?_
        refine JL.g rfl rfl rfl rfl rfl (fun hg => (QW.add (.when rfl hg) .const (by first | exact w64n (by first | rfl | omega | (simp; done)) (by omega) | exact w64 (by omega) | rfl))) ?_
        refine JL.g rfl rfl rfl rfl rfl (fun hg => (QW.eql (.when rfl hg) (.when rfl hg))) ?_
        refine JL.q rfl rfl rfl (QW.pick_and (.tmp rfl) (.tmp rfl)) ?_
        refine JL.q rfl rfl rfl (QW.move (.tmp rfl)) ?_
        refine JL.g rfl rfl rfl rfl rfl (fun hg => (QW.field_ptr fo58_2 (.tmp rfl) rfl)) ?_
        refine JL.g rfl rfl rfl rfl rfl (fun hg => (QW.load_box1 2 ty56 (.when rfl hg) rfl rfl)) ?_
        refine JL.g rfl rfl rfl rfl rfl (fun hg => (by first | exact QW.len_slE sl56 (.when rfl hg) (EvT.css_length _ _) | exact QW.len_sl sl56 (.when rfl hg) | exact QW.len_nil sl56 (.when rfl hg))) ?_
        refine JL.g rfl rfl rfl rfl rfl (fun hg => (QW.field_ptr fo61_2 (.tmp rfl) rfl)) ?_
        refine JL.g rfl rfl rfl rfl rfl (fun hg => (QW.load_box1 1 ty56 (.when rfl hg) rfl rfl)) ?_
        refine JL.g rfl rfl rfl rfl rfl (fun hg => (by first | exact QW.len_slE sl56 (.when rfl hg) (EvT.css_length _ _) | exact QW.len_sl sl56 (.when rfl hg) | exact QW.len_nil sl56 (.when rfl hg))) ?_
        refine JL.g rfl rfl rfl rfl rfl (fun hg => (QW.add (.when rfl hg) .const (by first | exact w64n (by first | rfl | omega | (simp; done)) (by omega) | exact w64 (by omega) | rfl))) ?_
        refine JL.g rfl rfl rfl rfl rfl (fun hg => (QW.eql (.when rfl hg) (.when rfl hg))) ?_
        refine JL.q rfl rfl rfl (QW.pick_and (.tmp rfl) (.tmp rfl)) ?_
        refine JL.q rfl rfl rfl (QW.assign (.tmp rfl)) ?_
        refine JL.nil ?_
        refine thenQ.n ?_
        refine J.ret ?_
        refine thenQ.r ?_
        exact ⟨_, selP [.k, .k, .k] _, _, RetEv.one rfl (REv.tmp rfl (.refl _)), rfl, sel_perm [.k, .k, .k] _, ⟨ret_b (by rw [QT.push_yes hok c3]; simp), rfl⟩⟩
      · skip
        refine J.skip ?_
        refine thenQ.n ?_
        refine J.seq ?_
        refine J.region_lit ?_
        refine JL.q rfl rfl rfl (QW.move (.tmp rfl)) ?_
        refine JL.q rfl rfl rfl (QW.call gofn40 (.cons (.tmp rfl) .nil) (num18_ok _)) ?_
        refine JL.q rfl rfl rfl (QW.neq (.tmp rfl) .const) ?_
        refine JL.q rfl rfl rfl (QW.move (.tmp rfl)) ?_
        refine JL.g rfl rfl rfl rfl rfl (fun hg => (QW.move (.tmp rfl))) ?_
        refine JL.g rfl rfl rfl rfl rfl (fun hg => (QW.eql (.when rfl hg) .const)) ?_
        refine JL.q rfl rfl rfl (QW.pick_and (.tmp rfl) (.tmp rfl)) ?_
        refine JL.q rfl rfl rfl (QW.move (.tmp rfl)) ?_
        refine JL.g rfl rfl rfl rfl rfl (fun hg => (QW.field_ptr fo58_2 (.tmp rfl) rfl)) ?_
        refine JL.g rfl rfl rfl rfl rfl (fun hg => (QW.load_box1 2 ty56 (.when rfl hg) rfl rfl)) ?_
        refine JL.g rfl rfl rfl rfl rfl (fun hg => (by first | exact QW.len_slE sl56 (.when rfl hg) (EvT.css_length _ _) | exact QW.len_sl sl56 (.when rfl hg) | exact QW.len_nil sl56 (.when rfl hg))) ?_
        refine JL.g rfl rfl rfl rfl rfl (fun hg => (QW.eql (.when rfl hg) .const)) ?_
        refine JL.q rfl rfl rfl (QW.pick_and (.tmp rfl) (.tmp rfl)) ?_
        refine JL.q rfl rfl rfl (QW.move (.tmp rfl)) ?_
        refine JL.g rfl rfl rfl rfl rfl (fun hg => (QW.move (.tmp rfl))) ?_
        refine JL.g rfl rfl rfl rfl rfl (fun hg => (QW.call gofn40 (.cons (.when rfl hg) .nil) (num18_ok _))) ?_
        refine JL.g rfl rfl rfl rfl rfl (fun hg => (QW.eql (.when rfl hg) .const)) ?_
        refine JL.q rfl rfl rfl (QW.pick_and (.tmp rfl) (.tmp rfl)) ?_
        refine JL.q rfl rfl rfl (QW.assign (.tmp rfl)) ?_
        refine JL.nil ?_
        refine thenQ.n ?_
        refine J.ret ?_
        exact ⟨_, selP [.k, .k, .k] _, _, RetEv.one rfl (REv.tmp rfl (.refl _)), rfl, sel_perm [.k, .k, .k] _, ⟨ret_b (by obtain ⟨g1, g2, g3⟩ := QT.push_no hok c3; rw [c2]; generalize QT.push _ _ = r at g1 g2 g3 ⊢; obtain ⟨q2, n2, f2⟩ := r; simp only at g1 g2 g3; subst g2 g3; simp [QT.nil, g1]), rfl⟩⟩

end Go.Proofs.Ytkiankpmkglhcaa.J
