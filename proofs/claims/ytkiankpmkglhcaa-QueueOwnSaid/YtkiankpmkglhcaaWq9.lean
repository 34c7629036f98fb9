/- Walks: QueueOwn. -/
import Derived.Test.YtkiankpmkglhcaaWq8
import Derived.Test.YtkiankpmkglhcaaWv7
namespace Go.Proofs.Ytkiankpmkglhcaa.J
open Go Go.RowKit
set_option linter.unusedVariables false
set_option linter.unusedSimpArgs false
set_option maxRecDepth 10000
set_option maxHeartbeats 4000000

/-- A queue in memory of its own. -/
def OfR : QT → AV → List Own → Prop
  | ⟨a, b, l⟩, x, o => ∃ v ov, x = .agg [.c (.int .i64 a), .c (.int .i64 b), .c v] ∧ v.oneCell' = true ∧ o = [ov] ∧ Tr (.sl true false eEv (EvT.css true l)) v ov
theorem QT.cs_fresh : ∀ q : QT, Fresh (.agg (q.cs true))
  | ⟨_, _, l⟩ => .agg (FlL.cons (.c _) (FlL.cons (.c _) (FlL.cons (events_fresh l false) .nil)))
theorem pushAV_fresh (q : QT) (e : EvT) : Fresh (pushAV q e) := .tup (FlL.cons (QT.cs_fresh _) (FlL.cons (.c _) (FlL.cons (.c _) .nil)))
theorem takeAV_fresh (q : QT) (n : Int) : Fresh (takeAV q n) := .tup (FlL.cons (QT.cs_fresh _) (FlL.cons (events_fresh _ false) (FlL.cons (.c _) (FlL.cons (.c _) .nil))))
theorem evs_take {l : List EvT} {cs : List (List AV)} {us : List Value} {o : Own} {j : Nat} (hlt : j < l.length) (hl : cs.length = l.length) (h3 : ∀ x ∈ cs, x.length = 6) (hf : (cs.drop j).flatten = us.map AV.c) (h1 : us.all (·.oneCell') = true) (h : TrL (EvT.css true (l.drop j)).flatten us o) :
    ∃ kv iv ok oi us2 o2, cs[j]? = some ((l[j]'hlt).raw kv iv) ∧ VTr (l[j]'hlt).arg kv iv ok oi ∧ (cs.drop (j + 1)).flatten = us2.map AV.c ∧ us2.all (·.oneCell') = true ∧ TrL (EvT.css true (l.drop (j + 1))).flatten us2 o2 ∧ Reown [o] [ok, oi, o2] := by
  rw [List.drop_eq_getElem_cons hlt, show EvT.css true (l[j] :: l.drop (j + 1)) = l[j].cs true :: EvT.css true (l.drop (j + 1)) from rfl, List.flatten_cons] at h
  obtain ⟨u1, u2, o1, o2, rfl, f1, g2, g3⟩ := h.split
  rw [List.all_append, Bool.and_eq_true] at h1
  obtain ⟨u0, u1', a0, b0, rfl, k0, g1, k1⟩ := f1.cons_inv
  obtain rfl := k0.c_inv
  have h1' := h1.1
  rw [List.all_cons, Bool.and_eq_true] at h1'
  obtain ⟨kv, iv, ok, oi, rfl, hV, hR⟩ := g1.value h1'.2
  have hj : j < cs.length := by omega
  rw [List.drop_eq_getElem_cons hj] at hf
  obtain ⟨m1, m2⟩ := flat_first hf (by rw [h3 _ (List.getElem_mem hj)]; rfl)
  refine ⟨kv, iv, ok, oi, u2, o2, by rw [List.getElem?_eq_getElem hj, m1]; rfl, hV, m2, h1.2, g2, ?_⟩
  have s1 : Reown [o] [o1, o2] := Reown.pair g3
  have s0 : Reown [o1] [b0] := (Reown.pair k1).trans (Reown.dropN 1 _ rfl)
  have s2 : Reown [o1, o2] [ok, oi, o2] := (Reown.perm (List.Perm.swap _ _ _)).trans ((Reown.left (c := [o2]) (s0.trans hR)).trans (Reown.perm (by
    simpa using (List.perm_append_comm (l₁ := [o2]) (l₂ := [ok, oi])))))
  exact s1.trans s2

theorem of18_own {fr : Bool} {q : QT} {ys : List AV} (hq : Qc fr q ys) (hw : q.wf) : AC Try.prog 45 [] [.agg ys] (RetR (OfR q)) := by
  obtain ⟨lim, la, l⟩ := q
  subst hq
  obtain ⟨-, -, hl⟩ := hw
  simp only at hl
  refine AC.of_J Try.func45 rfl Try.ntmps45 rfl fun w0 A0 => ?_
  refine J.seq ?_
  refine J.region_lit ?_
  refine JL.box_agg (.tmp rfl) rfl fun b1 => ?_
  refine JL.alloc z58 rfl rfl fun b2 => ?_
  refine JL.nil ?_
  refine thenQ.n ?_
  refine J.seq ?_
  refine J.region_outK 7 1 (fun os_ ow_ x_ o_ => match os_ with | [] => (∃ o2_, (EvsR l) x_ o2_ ∧ o_ = mrg [] o2_ ow_) | _ => False) mixed (by kernel_rfl) (by kernel_rfl) (by kernel_rfl) rfl ?_
  refine OutK.quiet [] rfl rfl rfl (fun qs_ qv_ ql_ => (.q rfl (QW.field_ptr fo61_0 (.tmp rfl) rfl))) ?_
  refine OutK.quiet [3] rfl rfl rfl (fun qs_ qv_ ql_ => by
      rcases qs_ with _ | ⟨⟨y0, p0⟩, qs_⟩
      · skip
        exact (.q rfl (QW.load_box1 1 ty3 (.tmp rfl) rfl rfl))
      rcases qs_ with _ | ⟨⟨y1, p1⟩, qs_⟩
      · skip
        obtain ⟨hr0, _⟩ := qv_
        obtain ⟨o9, ⟨v9, ov9, rfl, hs9, rfl, hT9⟩, rfl⟩ := hr0
        exact (.q rfl (QW.load_box1 1 ty3 (.tmp rfl) rfl rfl))
      exact absurd ql_ (by simp)) ?_
  refine OutK.quiet [] rfl rfl rfl (fun qs_ qv_ ql_ => (.q rfl (QW.field_ptr fo61_1 (.tmp rfl) rfl))) ?_
  refine OutK.quiet [5] rfl rfl rfl (fun qs_ qv_ ql_ => by
      rcases qs_ with _ | ⟨⟨y0, p0⟩, qs_⟩
      · skip
        exact (.q rfl (QW.load_box1 1 ty3 (.tmp rfl) rfl rfl))
      rcases qs_ with _ | ⟨⟨y1, p1⟩, qs_⟩
      · skip
        obtain ⟨hr0, _⟩ := qv_
        obtain ⟨o9, ⟨v9, ov9, rfl, hs9, rfl, hT9⟩, rfl⟩ := hr0
        exact (.q rfl (QW.load_box1 1 ty3 (.tmp rfl) rfl rfl))
      exact absurd ql_ (by simp)) ?_
  refine OutK.quiet [] rfl rfl rfl (fun qs_ qv_ ql_ => (.q rfl (QW.field_ptr fo61_2 (.tmp rfl) rfl))) ?_
  refine OutK.quiet [7] rfl rfl rfl (fun qs_ qv_ ql_ => by
      rcases qs_ with _ | ⟨⟨y0, p0⟩, qs_⟩
      · skip
        exact (.q rfl (QW.load_box1 1 ty56 (.tmp rfl) rfl rfl))
      rcases qs_ with _ | ⟨⟨y1, p1⟩, qs_⟩
      · skip
        obtain ⟨hr0, _⟩ := qv_
        obtain ⟨o9, ⟨v9, ov9, rfl, hs9, rfl, hT9⟩, rfl⟩ := hr0
        exact (.q rfl (QW.load_box1 1 ty56 (.tmp rfl) rfl rfl))
      exact absurd ql_ (by simp)) ?_
  refine OutK.loud [8] rfl rfl rfl rfl rfl (fun qs_ qv_ ql_ => by
      obtain rfl : qs_ = [] := List.length_eq_zero_iff.1 ql_
      exact LStepR.callRF (d := 9) [] gofn88 Lent.nil (fun _ => (.cons (.tmp rfl) .nil)) (copyEvents_ok hl) (.inl rfl)) ?_
  refine .nil fun qs_ qv_ ql_ => ?_
  obtain ⟨⟨y0, p0⟩, qs_, rfl⟩ : ∃ p t, qs_ = p :: t := by (cases qs_ with | nil => simp at ql_ | cons p t => exact ⟨p, t, rfl⟩)
  obtain rfl : qs_ = [] := List.length_eq_zero_iff.1 (by simpa using ql_)
  obtain ⟨hr0, _⟩ := qv_
  obtain ⟨o9, ⟨v9, ov9, rfl, hs9, rfl, hT9⟩, rfl⟩ := hr0
  refine JL.conv (by (try simp only [stepsO, List.map_cons, List.map_nil, valO, nthO, curO, mrg, List.reverse_cons, List.reverse_nil, List.nil_append, List.cons_append, List.append_nil, List.getElem?_cons_zero, List.getElem?_cons_succ, Option.map_some, Option.getD_some, List.set_cons_zero, List.set_cons_succ, AV.cellsOf, splice_zero, splice_succ, Nat.zero_add, Nat.reduceAdd]); rfl) ?_
  refine JL.q rfl rfl rfl (QW.build (idx := [0, 1, 2]) pl58 z58 rfl (.cons (.tmp rfl) (.cons (.tmp rfl) (.cons (.tmp rfl) .nil))) rfl (by simp [AV.plain, AV.one, hs9]; exact ⟨rfl, rfl⟩) rfl rfl) ?_
  first | refine JL.store_boxF 0 ty58 (.tmp rfl) rfl (.tmp rfl) (by first | rfl | assumption) (rfl) (rfl) rfl ?_ | refine JL.store_boxF 0 ty58 (.tmp rfl) rfl (.tmp rfl) (by first | rfl | assumption) (rfl) (QT.cs_length _ _) rfl ?_ | refine JL.store_boxF 0 ty58 (.tmp rfl) rfl (.tmp rfl) (by first | rfl | assumption) (QT.cs_length _ _) (rfl) rfl ?_ | refine JL.store_boxF 0 ty58 (.tmp rfl) rfl (.tmp rfl) (by first | rfl | assumption) (QT.cs_length _ _) (QT.cs_length _ _) rfl ?_ | refine JL.store_box 0 ty58 (.tmp rfl) rfl (.tmp rfl) (by first | rfl | assumption) rfl rfl rfl rfl ?_ | refine JL.store_box 0 ty58 (.tmp rfl) rfl (.tmp rfl) (by first | rfl | assumption) (QT.cs_length _ _) rfl rfl rfl ?_
  refine JL.nil ?_
  refine thenQ.n ?_
  refine J.ret ?_
  exact ⟨_, selP [.k, .k, .p] _, _, RetEv.one rfl (by first | exact REv.cell 0 ty58 rfl rfl rfl rfl (.refl _) | exact REv.cell 0 ty58 rfl rfl (take_at (QT.cs_length _ _) rfl) (QT.cs_length _ _) (.refl _)), rfl, sel_perm [.k, .k, .p] _, ⟨_, rfl, _, _, rfl, hs9, rfl, hT9⟩⟩

theorem queueOwn_ok {q : QT} {e : EvT} {n : Int} (hw : q.wf) (hwe : e.wf) : Fn Try.prog 11 [.agg (q.cs false), .agg (e.cs false), .c (.int .i64 n)] (.c (.bool true)) := by
  obtain ⟨nm, ⟨kd, bt, tx, ks, is⟩⟩ := e
  obtain ⟨lim, la, l⟩ := q
  have hv := hwe.arg
  simp only at hv
  have hlw := hw.ev
  simp only at hlw
  have hln := hlw.len
  have hpw := QT.push_wf hw hwe
  have htw := (QT.take_wf (n := n) hw).1
  have htl := (QT.take_wf (n := n) hw).2
  refine AC.of_J Try.func11 rfl Try.ntmps11 rfl fun w0 A0 => ?_
  refine J.seq ?_
  refine J.region_lit ?_
  refine JL.box_agg (.tmp rfl) rfl fun b3 => ?_
  refine JL.box_agg (.tmp rfl) rfl fun b4 => ?_
  refine JL.q rfl rfl rfl (QW.assign .const) ?_
  refine JL.nil ?_
  refine thenQ.n ?_
  refine J.seq ?_
  refine J.seq ?_
  refine J.region_lit ?_
  refine JL.q rfl rfl rfl (QW.call gofn41 .nil (alive18_ok)) ?_
  refine JL.q rfl rfl rfl (QW.not (.tmp rfl)) ?_
  refine JL.nil ?_
  refine thenQ.n ?_
  refine J.cond (.tmp rfl) (fun c1 => ?_) (fun c1 => ?_)
  · skip
    exact absurd c1 (by simp)
    --closed
  · skip
    skip
    refine J.skip ?_
    refine thenQ.n ?_
    refine J.seq ?_
    refine J.region_outAK 7 2 (fun os_ ow_ x_ o_ => match os_ with | [] => (∃ o2_, (OfR ⟨lim, la, l⟩) x_ o2_ ∧ o_ = mrg [] o2_ ow_) | [(x0_, _)] => (∃ o2_, (CopyR (.mk kd bt tx ks is)) x_ o2_ ∧ o_ = mrg [] o2_ ow_) | _ => False) mixed (by kernel_rfl) (by kernel_rfl) (by kernel_rfl) rfl ?_
    refine OutA.quiet [] rfl rfl rfl (fun qs_ ex_ qv_ ql_ => by
        rcases qs_ with _ | ⟨⟨y0, p0⟩, qs_⟩
        · skip
          exact (.q rfl (by first | exact QW.load_box 1 ty61 (.tmp rfl) rfl rfl rfl | exact QW.load_box 1 ty61 (.tmp rfl) rfl (take_at (QT.cs_length _ _) rfl) (QT.cs_length _ _)))
        rcases qs_ with _ | ⟨⟨y1, p1⟩, qs_⟩
        · skip
          obtain ⟨hr0, _⟩ := qv_
          obtain ⟨o27, ⟨v27, ov27, rfl, hs27, rfl, hT27⟩, rfl⟩ := hr0
          exact (.q rfl (by first | exact QW.load_box 1 ty61 (.tmp rfl) rfl rfl rfl | exact QW.load_box 1 ty61 (.tmp rfl) rfl (take_at (QT.cs_length _ _) rfl) (QT.cs_length _ _)))
        rcases qs_ with _ | ⟨⟨y2, p2⟩, qs_⟩
        · skip
          obtain ⟨hr1, hr0, _⟩ := qv_
          obtain ⟨o27, ⟨v27, ov27, rfl, hs27, rfl, hT27⟩, rfl⟩ := hr0
          obtain ⟨o30, ⟨kv30, iv30, ok30, oi30, rfl, rfl, hV30⟩, rfl⟩ := hr1
          exact (.q rfl (by first | exact QW.load_box 1 ty61 (.tmp rfl) rfl rfl rfl | exact QW.load_box 1 ty61 (.tmp rfl) rfl (take_at (QT.cs_length _ _) rfl) (QT.cs_length _ _)))
        exact absurd ql_ (by simp)) ?_
    refine OutA.loud [26] rfl rfl rfl rfl rfl (fun qs_ ex_ qv_ ql_ => by
        obtain rfl : qs_ = [] := List.length_eq_zero_iff.1 ql_
        exact LStepR.frameM [] (LStepR.callRF (d := 27) [] gofn45 Lent.nil (fun _ => (.cons (.tmp rfl) .nil)) (of18_own Qc.self hw) (.inl rfl)) rfl rfl (fun x o2 h => ⟨o2, h, rfl⟩)) ?_
    refine OutA.quiet [] rfl rfl rfl (fun qs_ ex_ qv_ ql_ => (.q rfl (QW.field_ptr fo70_1 (.tmp rfl) rfl))) ?_
    refine OutA.quiet [28] rfl rfl rfl (fun qs_ ex_ qv_ ql_ => by
        rcases qs_ with _ | ⟨⟨y0, p0⟩, qs_⟩
        · skip
          exact (.q rfl (by first | exact QW.load_box 0 ty26 (.tmp rfl) rfl rfl rfl | exact QW.load_box 0 ty26 (.tmp rfl) rfl (take_at (V.cs_length _ _) rfl) (V.cs_length _ _)))
        rcases qs_ with _ | ⟨⟨y1, p1⟩, qs_⟩
        · skip
          obtain ⟨hr0, _⟩ := qv_
          obtain ⟨o27, ⟨v27, ov27, rfl, hs27, rfl, hT27⟩, rfl⟩ := hr0
          exact (.q rfl (by first | exact QW.load_box 0 ty26 (.tmp rfl) rfl rfl rfl | exact QW.load_box 0 ty26 (.tmp rfl) rfl (take_at (V.cs_length _ _) rfl) (V.cs_length _ _)))
        rcases qs_ with _ | ⟨⟨y2, p2⟩, qs_⟩
        · skip
          obtain ⟨hr1, hr0, _⟩ := qv_
          obtain ⟨o27, ⟨v27, ov27, rfl, hs27, rfl, hT27⟩, rfl⟩ := hr0
          obtain ⟨o30, ⟨kv30, iv30, ok30, oi30, rfl, rfl, hV30⟩, rfl⟩ := hr1
          exact (.q rfl (by first | exact QW.load_box 0 ty26 (.tmp rfl) rfl rfl rfl | exact QW.load_box 0 ty26 (.tmp rfl) rfl (take_at (V.cs_length _ _) rfl) (V.cs_length _ _)))
        exact absurd ql_ (by simp)) ?_
    refine OutA.loud [29] rfl rfl rfl rfl rfl (fun qs_ ex_ qv_ ql_ => by
        obtain ⟨⟨y0, p0⟩, qs_, rfl⟩ : ∃ p t, qs_ = p :: t := by (cases qs_ with | nil => simp at ql_ | cons p t => exact ⟨p, t, rfl⟩)
        obtain rfl : qs_ = [] := List.length_eq_zero_iff.1 (by simpa using ql_)
        obtain ⟨hr0, _⟩ := qv_
        obtain ⟨o27, ⟨v27, ov27, rfl, hs27, rfl, hT27⟩, rfl⟩ := hr0
        exact LStepR.frameM [] (LStepR.callRF (d := 30) [] gofn20 Lent.nil (fun _ => (.cons (.tmp rfl) .nil)) (copyValue_ok Vc.self hv) (.inl rfl)) rfl rfl (fun x o2 h => ⟨o2, h, rfl⟩)) ?_
    refine OutA.alloc (AllocOp.mk z58 rfl) rfl ?_
    refine OutA.alloc (AllocOp.mk z26 rfl) rfl ?_
    refine .nil fun qs_ bs_ qv_ ql_ => ?_
    obtain ⟨⟨y1, p1⟩, qs_, rfl⟩ : ∃ p t, qs_ = p :: t := by (cases qs_ with | nil => simp at ql_ | cons p t => exact ⟨p, t, rfl⟩)
    simp only [List.length_cons, Nat.add_right_cancel_iff] at ql_
    obtain ⟨⟨y0, p0⟩, qs_, rfl⟩ : ∃ p t, qs_ = p :: t := by (cases qs_ with | nil => simp at ql_ | cons p t => exact ⟨p, t, rfl⟩)
    obtain rfl : qs_ = [] := List.length_eq_zero_iff.1 (by simpa using ql_)
    obtain ⟨hr1, hr0, _⟩ := qv_
    obtain ⟨o27, ⟨v27, ov27, rfl, hs27, rfl, hT27⟩, rfl⟩ := hr0
    obtain ⟨o30, ⟨kv30, iv30, ok30, oi30, rfl, rfl, hV30⟩, rfl⟩ := hr1
    refine JL.conv (by (try simp only [stepsO, List.map_cons, List.map_nil, valO, nthO, curO, mrg, List.reverse_cons, List.reverse_nil, List.nil_append, List.cons_append, List.append_nil, List.getElem?_cons_zero, List.getElem?_cons_succ, Option.map_some, Option.getD_some, List.set_cons_zero, List.set_cons_succ, AV.cellsOf, splice_zero, splice_succ, Nat.zero_add, Nat.reduceAdd, alE, alO]); rfl) ?_
    first | refine JL.store_boxF 5 ty58 (.tmp rfl) rfl (.tmp rfl) (by first | rfl | assumption) (rfl) (rfl) rfl ?_ | refine JL.store_boxF 5 ty58 (.tmp rfl) rfl (.tmp rfl) (by first | rfl | assumption) (rfl) (QT.cs_length _ _) rfl ?_ | refine JL.store_boxF 5 ty58 (.tmp rfl) rfl (.tmp rfl) (by first | rfl | assumption) (QT.cs_length _ _) (rfl) rfl ?_ | refine JL.store_boxF 5 ty58 (.tmp rfl) rfl (.tmp rfl) (by first | rfl | assumption) (QT.cs_length _ _) (QT.cs_length _ _) rfl ?_ | refine JL.store_box 5 ty58 (.tmp rfl) rfl (.tmp rfl) (by first | rfl | assumption) rfl rfl rfl rfl ?_ | refine JL.store_box 5 ty58 (.tmp rfl) rfl (.tmp rfl) (by first | rfl | assumption) (QT.cs_length _ _) rfl rfl rfl ?_
    first | refine JL.store_boxF 6 ty26 (.tmp rfl) rfl (.tmp rfl) (by first | rfl | assumption) (rfl) (rfl) rfl ?_ | refine JL.store_boxF 6 ty26 (.tmp rfl) rfl (.tmp rfl) (by first | rfl | assumption) (rfl) (V.cs_length _ _) rfl ?_ | refine JL.store_boxF 6 ty26 (.tmp rfl) rfl (.tmp rfl) (by first | rfl | assumption) (V.cs_length _ _) (rfl) rfl ?_ | refine JL.store_boxF 6 ty26 (.tmp rfl) rfl (.tmp rfl) (by first | rfl | assumption) (V.cs_length _ _) (V.cs_length _ _) rfl ?_ | refine JL.store_box 6 ty26 (.tmp rfl) rfl (.tmp rfl) (by first | rfl | assumption) rfl rfl rfl rfl ?_ | refine JL.store_box 6 ty26 (.tmp rfl) rfl (.tmp rfl) (by first | rfl | assumption) (V.cs_length _ _) rfl rfl rfl ?_
    refine JL.nil ?_
    refine thenQ.n ?_
    refine J.seq ?_
    refine J.region_lit ?_
    refine JL.q rfl rfl rfl (by first | exact QW.load_box 5 ty58 (.tmp rfl) rfl rfl rfl | exact QW.load_box 5 ty58 (.tmp rfl) rfl (take_at (QT.cs_length _ _) rfl) (QT.cs_length _ _)) ?_
    refine JL.q rfl rfl rfl (QW.field_ptr fo70_0 (.tmp rfl) rfl) ?_
    refine JL.q rfl rfl rfl (QW.load_box1 0 ty9 (.tmp rfl) rfl rfl) ?_
    refine JL.q rfl rfl rfl (by first | exact QW.load_box 6 ty26 (.tmp rfl) rfl rfl rfl | exact QW.load_box 6 ty26 (.tmp rfl) rfl (take_at (V.cs_length _ _) rfl) (V.cs_length _ _)) ?_
    refine JL.q rfl rfl rfl (QW.build (idx := [0, 1]) pl70 z70 rfl (.cons (.tmp rfl) (.cons (.tmp rfl) .nil)) rfl rfl rfl (by first | rfl | exact fill_ev rfl)) ?_
    refine JL.q rfl rfl rfl (QW.callLF [.k, .k, .l, .l, .l] gofn42 (Lent.cons (hT27.lent (events_le true false false (fun h => by cases h) _) (events_low _)) (Lent.cons (hV30.lentK) (Lent.cons (hV30.lentI) Lent.nil))) rfl rfl (fun _ => (.cons (Ev.le (.tmp rfl) (.aggL (.cons (.refl _) (.cons (.refl _) (.cons (.fact (.head _) (.refl _)) .nil))))) (.cons (Ev.le (.tmp rfl) (.aggL (.cons (.refl _) (.cons (.refl _) (.cons (.refl _) (.cons (.refl _) (.cons (.fact (.tail _ (.head _)) (.refl _)) (.cons (.fact (.tail _ (.tail _ (.head _))) (.refl _)) .nil)))))))) .nil))) (qpush_ok (fr := false) (fr2 := false) (q := ⟨lim, la, l⟩) (e := ⟨nm, .mk kd bt tx ks is⟩) Qc.self Ec.self hw hwe) (pushAV_fresh _ _)) ?_
    refine JL.q rfl rfl rfl (QW.move (.tmp rfl)) ?_
    refine JL.q rfl rfl rfl (QW.extract (.tmp rfl) rfl) ?_
    refine JL.q rfl rfl rfl (QW.extract (.tmp rfl) rfl) ?_
    refine JL.q rfl rfl rfl (QW.extract (.tmp rfl) rfl) ?_
    refine JL.alloc z58 rfl rfl fun b9 => ?_
    first | refine JL.store_boxF 0 ty58 (.tmp rfl) rfl (.tmp rfl) (by first | rfl | assumption) (rfl) (rfl) rfl ?_ | refine JL.store_boxF 0 ty58 (.tmp rfl) rfl (.tmp rfl) (by first | rfl | assumption) (rfl) (QT.cs_length _ _) rfl ?_ | refine JL.store_boxF 0 ty58 (.tmp rfl) rfl (.tmp rfl) (by first | rfl | assumption) (QT.cs_length _ _) (rfl) rfl ?_ | refine JL.store_boxF 0 ty58 (.tmp rfl) rfl (.tmp rfl) (by first | rfl | assumption) (QT.cs_length _ _) (QT.cs_length _ _) rfl ?_ | refine JL.store_box 0 ty58 (.tmp rfl) rfl (.tmp rfl) (by first | rfl | assumption) rfl rfl rfl rfl ?_ | refine JL.store_box 0 ty58 (.tmp rfl) rfl (.tmp rfl) (by first | rfl | assumption) (QT.cs_length _ _) rfl rfl rfl ?_
    refine JL.q rfl rfl rfl (QW.assign (.tmp rfl)) ?_
    refine JL.q rfl rfl rfl (QW.assign (.tmp rfl)) ?_
    refine JL.nil ?_
    refine thenQ.n ?_
    refine J.seq ?_
    refine J.region_lit ?_
    refine JL.q rfl rfl rfl (by first | exact QW.load_box 2 ty61 (.tmp rfl) rfl rfl rfl | exact QW.load_box 2 ty61 (.tmp rfl) rfl (take_at (QT.cs_length _ _) rfl) (QT.cs_length _ _)) ?_
    refine JL.q rfl rfl rfl (by first | exact QW.load_box 1 ty70 (.tmp rfl) rfl rfl rfl | exact QW.load_box 1 ty70 (.tmp rfl) rfl (take_at (EvT.cs_length _ _) rfl) (EvT.cs_length _ _)) ?_
    refine JL.q rfl rfl rfl (QW.call gofn46 (.cons (.tmp rfl) (.cons (.tmp rfl) .nil)) (rqpush_ok (q := ⟨lim, la, l⟩) (e := ⟨nm, .mk kd bt tx ks is⟩) Qc.self Ec.self hw hwe)) ?_
    refine JL.q rfl rfl rfl (QW.move (.tmp rfl)) ?_
    refine JL.q rfl rfl rfl (QW.extract (.tmp rfl) rfl) ?_
    refine JL.q rfl rfl rfl (QW.extract (.tmp rfl) rfl) ?_
    refine JL.q rfl rfl rfl (QW.extract (.tmp rfl) rfl) ?_
    refine JL.alloc z61 rfl rfl fun b12 => ?_
    first | refine JL.store_boxF 0 ty61 (.tmp rfl) rfl (.tmp rfl) (by first | rfl | assumption) (rfl) (rfl) rfl ?_ | refine JL.store_boxF 0 ty61 (.tmp rfl) rfl (.tmp rfl) (by first | rfl | assumption) (rfl) (QT.cs_length _ _) rfl ?_ | refine JL.store_boxF 0 ty61 (.tmp rfl) rfl (.tmp rfl) (by first | rfl | assumption) (QT.cs_length _ _) (rfl) rfl ?_ | refine JL.store_boxF 0 ty61 (.tmp rfl) rfl (.tmp rfl) (by first | rfl | assumption) (QT.cs_length _ _) (QT.cs_length _ _) rfl ?_ | refine JL.store_box 0 ty61 (.tmp rfl) rfl (.tmp rfl) (by first | rfl | assumption) rfl rfl rfl rfl ?_ | refine JL.store_box 0 ty61 (.tmp rfl) rfl (.tmp rfl) (by first | rfl | assumption) (QT.cs_length _ _) rfl rfl rfl ?_
    refine JL.q rfl rfl rfl (QW.assign (.tmp rfl)) ?_
    refine JL.q rfl rfl rfl (QW.assign (.tmp rfl)) ?_
    refine JL.nil ?_
    refine thenQ.n ?_
    refine J.seq ?_
    refine J.region_lit ?_
    refine JL.q rfl rfl rfl (by first | exact QW.load_box 7 ty58 (.tmp rfl) rfl rfl rfl | exact QW.load_box 7 ty58 (.tmp rfl) rfl (take_at (QT.cs_length _ _) rfl) (QT.cs_length _ _)) ?_
    refine JL.q rfl rfl rfl (QW.move (.tmp rfl)) ?_
    refine JL.q rfl rfl rfl (QW.callLF [.k, .k, .k, .k, .l] gofn43 (Lent.cons (hT27.lent (events_le true false false (fun h => by cases h) _) (events_low _)) Lent.nil) rfl rfl (fun _ => (.cons (Ev.le (.tmp rfl) (.aggL (.cons (.refl _) (.cons (.refl _) (.cons (.fact (.head _) (.refl _)) .nil))))) (.cons (.tmp rfl) .nil))) (qtake_ok (fr := false) (q := ⟨lim, la, l⟩) Qc.self n hw) (takeAV_fresh _ _)) ?_
    refine JL.q rfl rfl rfl (QW.move (.tmp rfl)) ?_
    refine JL.q rfl rfl rfl (QW.extract (.tmp rfl) rfl) ?_
    refine JL.q rfl rfl rfl (QW.extract (.tmp rfl) rfl) ?_
    refine JL.q rfl rfl rfl (QW.extract (.tmp rfl) rfl) ?_
    refine JL.q rfl rfl rfl (QW.extract (.tmp rfl) rfl) ?_
    refine JL.alloc z58 rfl rfl fun b15 => ?_
    first | refine JL.store_boxF 0 ty58 (.tmp rfl) rfl (.tmp rfl) (by first | rfl | assumption) (rfl) (rfl) rfl ?_ | refine JL.store_boxF 0 ty58 (.tmp rfl) rfl (.tmp rfl) (by first | rfl | assumption) (rfl) (QT.cs_length _ _) rfl ?_ | refine JL.store_boxF 0 ty58 (.tmp rfl) rfl (.tmp rfl) (by first | rfl | assumption) (QT.cs_length _ _) (rfl) rfl ?_ | refine JL.store_boxF 0 ty58 (.tmp rfl) rfl (.tmp rfl) (by first | rfl | assumption) (QT.cs_length _ _) (QT.cs_length _ _) rfl ?_ | refine JL.store_box 0 ty58 (.tmp rfl) rfl (.tmp rfl) (by first | rfl | assumption) rfl rfl rfl rfl ?_ | refine JL.store_box 0 ty58 (.tmp rfl) rfl (.tmp rfl) (by first | rfl | assumption) (QT.cs_length _ _) rfl rfl rfl ?_
    refine JL.q rfl rfl rfl (QW.assign (.tmp rfl)) ?_
    refine JL.q rfl rfl rfl (QW.assign (.tmp rfl)) ?_
    refine JL.q rfl rfl rfl (QW.assign (.tmp rfl)) ?_
    refine JL.nil ?_
    refine thenQ.n ?_
    refine J.seq ?_
    refine J.region_lit ?_
    refine JL.q rfl rfl rfl (by first | exact QW.load_box 4 ty61 (.tmp rfl) rfl rfl rfl | exact QW.load_box 4 ty61 (.tmp rfl) rfl (take_at (QT.cs_length _ _) rfl) (QT.cs_length _ _)) ?_
    refine JL.q rfl rfl rfl (QW.move (.tmp rfl)) ?_
    refine JL.q rfl rfl rfl (QW.call gofn47 (.cons (.tmp rfl) (.cons (.tmp rfl) .nil)) (rqtake_ok (q := ⟨lim, la, l⟩) Qc.self n hw)) ?_
    refine JL.q rfl rfl rfl (QW.move (.tmp rfl)) ?_
    refine JL.q rfl rfl rfl (QW.extract (.tmp rfl) rfl) ?_
    refine JL.q rfl rfl rfl (QW.extract (.tmp rfl) rfl) ?_
    refine JL.q rfl rfl rfl (QW.extract (.tmp rfl) rfl) ?_
    refine JL.q rfl rfl rfl (QW.extract (.tmp rfl) rfl) ?_
    refine JL.alloc z61 rfl rfl fun b19 => ?_
    first | refine JL.store_boxF 0 ty61 (.tmp rfl) rfl (.tmp rfl) (by first | rfl | assumption) (rfl) (rfl) rfl ?_ | refine JL.store_boxF 0 ty61 (.tmp rfl) rfl (.tmp rfl) (by first | rfl | assumption) (rfl) (QT.cs_length _ _) rfl ?_ | refine JL.store_boxF 0 ty61 (.tmp rfl) rfl (.tmp rfl) (by first | rfl | assumption) (QT.cs_length _ _) (rfl) rfl ?_ | refine JL.store_boxF 0 ty61 (.tmp rfl) rfl (.tmp rfl) (by first | rfl | assumption) (QT.cs_length _ _) (QT.cs_length _ _) rfl ?_ | refine JL.store_box 0 ty61 (.tmp rfl) rfl (.tmp rfl) (by first | rfl | assumption) rfl rfl rfl rfl ?_ | refine JL.store_box 0 ty61 (.tmp rfl) rfl (.tmp rfl) (by first | rfl | assumption) (QT.cs_length _ _) rfl rfl rfl ?_
    refine JL.q rfl rfl rfl (QW.assign (.tmp rfl)) ?_
    refine JL.q rfl rfl rfl (QW.assign (.tmp rfl)) ?_
    refine JL.q rfl rfl rfl (QW.assign (.tmp rfl)) ?_
    refine JL.nil ?_
    refine thenQ.n ?_
    refine J.seq ?_
    refine J.region_lit ?_
    refine JL.q rfl rfl rfl (by first | exact QW.load_box 10 ty26 (.tmp rfl) rfl rfl rfl | exact QW.load_box 10 ty26 (.tmp rfl) rfl (take_at (V.cs_length _ _) rfl) (V.cs_length _ _)) ?_
    refine JL.callRF [.k, .k, .k, .k, .k, .k, .k, .p, .p] gofn32 rfl Lent.nil (fun _ => (.cons (.tmp rfl) .nil)) (spoil_ok hV30 hv) (.inl rfl) fun x65 o65 h65 => ?_
    obtain ⟨rfl, rfl⟩ := h65
    refine JL.nil ?_
    refine thenQ.n ?_
    refine J.seq ?_
    refine J.seq ?_
    obtain ⟨ce, ue, o1, p1, p2, p3, p4, p5, p6⟩ := hT27.inv
    rw [EvT.css_length] at p2
    refine J.reown (Reown.split2 (i := 6) rfl p6) ?_
    refine J.region_lit ?_
    refine JL.q rfl rfl rfl (QW.assign .const) ?_
    refine JL.nil ?_
    refine thenQ.n ?_
    refine J.block ?_
    refine J.loopK (ι := Nat × List (List AV) × List Value × Own) [6, 7, 9, 11, 12, 14, 15, 16, 18, 19, 20, 22] (fun ⟨j, ce2, us, o⟩ => [(23, .c (.int .i64 (j : Int)))]) (fun ⟨j, ce2, us, o⟩ oo => List.set (List.set oo 6 (.arr v27 eEv ce2)) 9 (o)) (fun ⟨j, ce2, us, o⟩ => ce2.length = l.length ∧ (∀ x ∈ ce2, x.length = 6) ∧ (ce2.drop j).flatten = us.map AV.c ∧ us.all (·.oneCell') = true ∧ TrL (EvT.css true (l.drop j)).flatten us o) (fun ⟨j, ce2, us, o⟩ => l.length - j) ⟨0, ce, ue, o1⟩ (⟨p2, p3, p1, p4, p5⟩) (Wk.re (.cons rfl (.refl _) (.cons rfl (.refl _) (.cons rfl (.refl _) (.cons rfl (.refl _) (.cons rfl (.refl _) (.cons rfl (.refl _) (.cons rfl (.refl _) (.cons rfl (.refl _) (.cons rfl (.refl _) (.cons rfl (.refl _) (.cons rfl (.refl _) (.cons rfl (.refl _) (.cons rfl (.refl _) .nil))))))))))))) (Reown.refl _) (fun _ h => by first | exact h | simp [h])) ?_
    intro ⟨j, ce2, us, o⟩ ⟨hcl, hc5, hcf, hu1, hT⟩
    refine J.conv (by (try simp only [stepsO, List.map_cons, List.map_nil, valO, nthO, curO, mrg, List.reverse_cons, List.reverse_nil, List.nil_append, List.cons_append, List.append_nil, List.getElem?_cons_zero, List.getElem?_cons_succ, Option.map_some, Option.getD_some, List.set_cons_zero, List.set_cons_succ, AV.cellsOf, splice_zero, splice_succ, Nat.zero_add, Nat.reduceAdd]); rfl) ?_
    refine J.seq ?_
    refine J.seq ?_
    refine J.region_lit ?_
    refine JL.q rfl rfl rfl (QW.move (.tmp rfl)) ?_
    refine JL.q rfl rfl rfl (QW.field_ptr fo58_2 (.tmp rfl) rfl) ?_
    refine JL.q rfl rfl rfl (QW.load_box1 7 ty56 (.tmp rfl) rfl rfl) ?_
    refine JL.q rfl rfl rfl (QW.len_arr 6 sl56 (.tmp rfl) rfl) ?_
    refine JL.q rfl rfl rfl (QW.lss (.tmp rfl) (.tmp rfl)) ?_
    refine JL.nil ?_
    refine thenQ.n ?_
    refine J.cond (.tmp rfl) (fun c2 => ?_) (fun c2 => ?_)
    · skip
      have hlt : j < l.length := by (simp at c2; omega)
      refine J.skip ?_
      refine thenQ.n ?_
      refine J.seq ?_
      refine J.block ?_
      refine J.seq ?_
      obtain ⟨kv2, iv2, ok2, oi2, us2, o2, g1, hV2, g3, g4, g5, g6⟩ := evs_take hlt hcl hc5 hcf hu1 hT
      refine J.reown (Reown.cons (Reown.cons (Reown.cons (Reown.cons (Reown.cons (Reown.cons (Reown.cons (Reown.cons (Reown.cons g6))))))))) ?_
      refine J.region_lit ?_
      refine JL.q rfl rfl rfl (QW.field_ptr fo58_2 (.tmp rfl) rfl) ?_
      refine JL.q rfl rfl rfl (QW.load_box1 7 ty56 (.tmp rfl) rfl rfl) ?_
      refine JL.q rfl rfl rfl (QW.move (.tmp rfl)) ?_
      refine JL.q rfl rfl rfl (QW.index_arr 6 sl56 ty70 rfl (.tmp rfl) rfl (.tmp rfl) (by first | rfl | omega | (simp; done)) (by first | omega | (simp; omega)) rfl) ?_
      refine JL.q rfl rfl rfl (QW.field_gp fo70_1 (.tmp rfl) rfl) ?_
      refine JL.q rfl rfl rfl (by first | exact QW.load_gp 6 ty26 (.tmp rfl) rfl (by exact g1) rfl rfl rfl | exact QW.load_gp (o := 0) 6 ty26 (.tmp rfl) rfl (by exact g1) rfl rfl rfl | exact QW.load_gp 6 ty26 (.tmp rfl) rfl (by exact g1) rfl (take_full (V.cs_length _ _)) (V.cs_length _ _)) ?_
      refine JL.callRF [.k, .k, .k, .k, .k, .k, .k, .k, .k, .p, .p] gofn32 rfl Lent.nil (fun _ => (.cons (.tmp rfl) .nil)) (spoil_ok hV2 (hlw.2 _ (List.getElem_mem hlt)).arg) (.inl rfl) fun x79 o79 h79 => ?_
      obtain ⟨rfl, rfl⟩ := h79
      refine JL.nil ?_
      refine thenQ.n ?_
      refine J.region_lit ?_
      refine JL.q rfl rfl rfl (QW.field_ptr fo58_2 (.tmp rfl) rfl) ?_
      refine JL.q rfl rfl rfl (QW.load_box1 7 ty56 (.tmp rfl) rfl rfl) ?_
      refine JL.q rfl rfl rfl (QW.move (.tmp rfl)) ?_
      refine JL.q rfl rfl rfl (QW.index_arr 6 sl56 ty70 rfl (.tmp rfl) rfl (.tmp rfl) (by first | rfl | omega | (simp; done)) (by first | omega | (simp; omega)) rfl) ?_
      refine JL.q rfl rfl rfl (QW.field_gp fo70_0 (.tmp rfl) rfl) ?_
      refine JL.store_gp 6 ty9 (.tmp rfl) rfl g1 rfl .const rfl rfl rfl rfl rfl ?_
      refine JL.nil ?_
      refine blkQ.n ?_
      refine thenQ.n ?_
      refine J.region_lit ?_
      refine JL.q rfl rfl rfl (QW.move (.tmp rfl)) ?_
      refine JL.q rfl rfl rfl (QW.add (.tmp rfl) .const (by first | exact w64n (by first | rfl | omega | (simp; done)) (by omega) | exact w64 (by omega) | rfl)) ?_
      refine JL.q rfl rfl rfl (QW.assign (.tmp rfl)) ?_
      refine JL.nil ?_
      refine thenQ.n ?_
      exact ⟨⟨j + 1, ce2.set j (.c (str []) :: (l[j]'hlt).arg.raw kv2 iv2), us2, o2⟩, ⟨by simp [hcl], fun x hx => (List.mem_or_eq_of_mem_set hx).elim (hc5 x) (fun h => by rw [h]; rfl), by rw [List.drop_set_of_lt (by omega)]; exact g3, g4, g5⟩, by simp; omega, Wk.re (.cons rfl (.refl _) (.cons rfl (.refl _) (.cons rfl (.refl _) (.cons rfl (.refl _) (.cons rfl (.refl _) (.cons rfl (.refl _) (.cons rfl (.refl _) (.cons rfl (.refl _) (.cons rfl (.refl _) (.cons rfl (.refl _) (.cons rfl (.refl _) (.cons rfl (.refl _) (.cons rfl (.refl _) .nil))))))))))))) (Reown.refl _) (fun _ h => by first | exact h | simp [h])⟩
    · skip
      skip
      refine J.exit ?_
      refine thenQ.x ?_
      refine thenQ.x ?_
      refine blkQ.hit ?_
      refine thenQ.n ?_
      refine J.seq ?_
      refine J.region_lit ?_
      refine JL.q rfl rfl rfl (by first | exact QW.load_box 3 ty58 (.tmp rfl) rfl rfl rfl | exact QW.load_box 3 ty58 (.tmp rfl) rfl (take_at (QT.cs_length _ _) rfl) (QT.cs_length _ _)) ?_
      refine JL.q rfl rfl rfl (by first | exact QW.load_box 2 ty61 (.tmp rfl) rfl rfl rfl | exact QW.load_box 2 ty61 (.tmp rfl) rfl (take_at (QT.cs_length _ _) rfl) (QT.cs_length _ _)) ?_
      refine JL.q rfl rfl rfl (QW.call gofn39 (.cons (.tmp rfl) (.cons (.tmp rfl) .nil)) (alike18_ok Qc.self Qc.self hpw hpw)) ?_
      refine JL.q rfl rfl rfl (QW.eql (.tmp rfl) .const) ?_
      refine JL.q rfl rfl rfl (QW.move (.tmp rfl)) ?_
      refine JL.g rfl rfl rfl rfl rfl (fun hg => (QW.move (.tmp rfl))) ?_
      refine JL.g rfl rfl rfl rfl rfl (fun hg => (QW.call gofn40 (.cons (.when rfl hg) .nil) (num18_ok _))) ?_
      refine JL.g rfl rfl rfl rfl rfl (fun hg => (QW.move (.tmp rfl))) ?_
      refine JL.g rfl rfl rfl rfl rfl (fun hg => (QW.eql (.when rfl hg) (.when rfl hg))) ?_
      refine JL.q rfl rfl rfl (QW.pick_and (.tmp rfl) (.tmp rfl)) ?_
      refine JL.q rfl rfl rfl (QW.move (.tmp rfl)) ?_
      refine JL.g rfl rfl rfl rfl rfl (fun hg => (by first | exact QW.load_box 1 ty58 (.tmp rfl) rfl rfl rfl | exact QW.load_box 1 ty58 (.tmp rfl) rfl (take_at (QT.cs_length _ _) rfl) (QT.cs_length _ _))) ?_
      refine JL.g rfl rfl rfl rfl rfl (fun hg => (by first | exact QW.load_box 0 ty61 (.tmp rfl) rfl rfl rfl | exact QW.load_box 0 ty61 (.tmp rfl) rfl (take_at (QT.cs_length _ _) rfl) (QT.cs_length _ _))) ?_
      refine JL.g rfl rfl rfl rfl rfl (fun hg => (QW.call gofn39 (.cons (.when rfl hg) (.cons (.when rfl hg) .nil)) (alike18_ok Qc.self Qc.self htw htw))) ?_
      refine JL.g rfl rfl rfl rfl rfl (fun hg => (QW.eql (.when rfl hg) .const)) ?_
      refine JL.q rfl rfl rfl (QW.pick_and (.tmp rfl) (.tmp rfl)) ?_
      refine JL.q rfl rfl rfl (QW.move (.tmp rfl)) ?_
      refine JL.g rfl rfl rfl rfl rfl (fun hg => (QW.move (.tmp rfl))) ?_
      refine JL.g rfl rfl rfl rfl rfl (fun hg => (QW.move (.tmp rfl))) ?_
      refine JL.g rfl rfl rfl rfl rfl (fun hg => (QW.call gofn44 (.cons (.when rfl hg) (.cons (.when rfl hg) .nil)) (sameEvents_ok htl htl))) ?_
      refine JL.q rfl rfl rfl (QW.pick_and (.tmp rfl) (.tmp rfl)) ?_
      refine JL.q rfl rfl rfl (QW.move (.tmp rfl)) ?_
      refine JL.g rfl rfl rfl rfl rfl (fun hg => (QW.move (.tmp rfl))) ?_
      refine JL.g rfl rfl rfl rfl rfl (fun hg => (QW.call gofn40 (.cons (.when rfl hg) .nil) (num18_ok _))) ?_
      refine JL.g rfl rfl rfl rfl rfl (fun hg => (QW.move (.tmp rfl))) ?_
      refine JL.g rfl rfl rfl rfl rfl (fun hg => (QW.eql (.when rfl hg) (.when rfl hg))) ?_
      refine JL.q rfl rfl rfl (QW.pick_and (.tmp rfl) (.tmp rfl)) ?_
      refine JL.q rfl rfl rfl (QW.assign (.tmp rfl)) ?_
      refine JL.nil ?_
      refine thenQ.n ?_
      refine J.ret ?_
      exact ⟨_, selP [.k, .k, .k, .k, .k, .k, .k, .k, .k, .k] _, _, RetEv.one rfl (REv.tmp rfl (.refl _)), rfl, sel_perm [.k, .k, .k, .k, .k, .k, .k, .k, .k, .k] _, ⟨ret_b (by simp), rfl⟩⟩

end Go.Proofs.Ytkiankpmkglhcaa.J
