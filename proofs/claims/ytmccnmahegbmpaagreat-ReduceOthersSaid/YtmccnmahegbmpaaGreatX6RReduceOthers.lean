/- Texts of this proof, laid together. -/
import Derived.Test.YtmccnmahegbmpaaGreatX5RReduceOthers
set_option linter.unusedVariables false
set_option linter.unusedSimpArgs false
/- Walks: events, one after another. -/
namespace Go.Proofs.YtmccnmahegbmpaaGreat.J
open Go Go.RowKit
set_option maxRecDepth 10000
set_option maxHeartbeats 4000000
def foldAV (r : V × List EvT × Int × Int) : AV := .tup [.agg (r.1.cs false), .sl false false eEv (EvT.css false r.2.1), .c (.int .i64 r.2.2.1), .c (.int .i64 r.2.2.2)]
theorem fold_bad {p : PgT} {st : V} {out : List EvT} {l : List EvT} {j : Nat} {i c : Int} (h : j < l.length) (hs : stepE p st l[j] = .error c) : foldE p st out (l.drop j) i = (st, out, i, c) := by
  rw [List.drop_eq_getElem_cons h, foldE, hs]
theorem fold_go {p : PgT} {st v : V} {out m : List EvT} {l : List EvT} {j : Nat} {i : Int} (h : j < l.length) (hs : stepE p st l[j] = .ok (v, m)) : foldE p st out (l.drop j) i = foldE p v (out ++ m) (l.drop (j + 1)) (i + 1) := by
  rw [List.drop_eq_getElem_cons h, foldE, hs]
theorem ems_good : ∀ {l : List EmT} {s : ScT} {f g : Int} {es : List EvT}, (∀ x ∈ l, x.wf) → (∀ x ∈ l, x.wh.Fine ∧ x.ar.Fine) → s.good → okF f → emsE s l f = .ok (es, g) → es.length ≤ l.length ∧ ∀ e ∈ es, e.arg.good ∧ ∃ x ∈ l, x.nm = e.name
  | [], s, f, g, es, _, _, _, _, h => by simp [emsE] at h; obtain ⟨rfl, rfl⟩ := h; exact ⟨Nat.le_refl _, fun e he => by cases he⟩
  | x :: r, s, f, g, es, hw, hf, hs, h0, h => by
    rw [emsE] at h
    cases ht : truE (x.wh.ev s f) with
    | error c => rw [ht] at h; cases h
    | ok q =>
      obtain ⟨t, f1⟩ := q
      have hf1 := tr_okF (hw x (by simp)).wh (hf x (by simp)).1 hs h0 ht
      rw [ht] at h
      cases t with
      | false =>
        simp only [] at h
        obtain ⟨h1, h2⟩ := ems_good (fun y hy => hw y (by simp [hy])) (fun y hy => hf y (by simp [hy])) hs hf1 h
        exact ⟨by simp; omega, fun e he => by obtain ⟨a, y, b, c⟩ := h2 e he; exact ⟨a, y, by simp [b], c⟩⟩
      | true =>
        simp only [] at h
        cases ha : x.ar.ev s f1 with
        | error c => rw [ha] at h; cases h
        | ok q2 =>
          obtain ⟨v, f2⟩ := q2
          obtain ⟨hgv, hf2⟩ := ev_okF (hw x (by simp)).ar (hf x (by simp)).2 hs hf1 ha
          rw [ha] at h
          simp only [] at h
          cases hr : emsE s r f2 with
          | error c => rw [hr] at h; cases h
          | ok q3 =>
            obtain ⟨l3, f3⟩ := q3
            rw [hr] at h
            simp only [] at h
            cases h
            obtain ⟨h1, h2⟩ := ems_good (fun y hy => hw y (by simp [hy])) (fun y hy => hf y (by simp [hy])) hs hf2 hr
            refine ⟨by simp; omega, fun e he => ?_⟩
            rcases List.mem_cons.1 he with rfl | he
            · exact ⟨hgv, x, by simp, rfl⟩
            · obtain ⟨a, y, b, c⟩ := h2 e he; exact ⟨a, y, by simp [b], c⟩
theorem run_good {h : HdT} {st arg v : V} {m : List EvT} (hw : h.wf) (he : h.err = 0) (hst : st.good) (ha : arg.good) (hr : h.runE st arg = .ok (v, m)) : v.good ∧ m.length ≤ 8 ∧ ∀ e ∈ m, e.arg.good ∧ ∃ x ∈ h.ems, x.nm = e.name := by
  obtain ⟨⟨h8, h9⟩, hf1, hf2⟩ := HdT.ok_of he
  have hs0 : okF 4096 := ⟨by decide, by decide⟩
  cases h1 : setsE ⟨st, arg, .nil⟩ h.sets 4096 with
  | error c => rw [runE_er1 h1] at hr; cases hr
  | ok q =>
    obtain ⟨w, f⟩ := q
    obtain ⟨g1, g2⟩ := setsE_good hw.sets hf1 ⟨hst, ha, V.good_nil⟩ hs0 h1
    rw [runE_go h1] at hr
    cases h2 : emsE ⟨w, arg, .nil⟩ h.ems f with
    | error c => rw [h2] at hr; cases hr
    | ok q2 =>
      obtain ⟨l, g⟩ := q2
      rw [h2] at hr
      cases hr
      obtain ⟨k1, k2⟩ := ems_good hw.ems hf2 ⟨g1, ha, V.good_nil⟩ g2 h2
      exact ⟨g1, by omega, k2⟩
theorem setv_kind5 {v x : V} {k : Str} (hv : v.kind = 5) (h : (v.setv [⟨true, k, 0⟩] x).2 = 0) : (v.setv [⟨true, k, 0⟩] x).1.kind = 5 := by
  obtain ⟨-, -, h3, -⟩ := V.setv_inv (w := (v.setv [⟨true, k, 0⟩] x).1) (Prod.ext rfl h)
  have h3' : v.put ⟨true, k, 0⟩ x = ((v.setv [⟨true, k, 0⟩] x).1, 0) := h3
  unfold V.put at h3'
  split at h3'
  · rw [← (Prod.mk.inj h3').1]; exact hv
  · split at h3'
    · rw [← (Prod.mk.inj h3').1]; exact hv
    · rename_i h1 h2; exact absurd (Prod.mk.inj h3').2 h2
theorem puts_kind : ∀ {l : List SetT} {vs : List V} {v w : V}, v.kind = 5 → putsE v (l.zip vs) = .ok w → w.kind = 5
  | [], vs, v, w, hv, h => by cases vs <;> (simp [putsE] at h; exact h ▸ hv)
  | s :: l, [], v, w, hv, h => by simp [putsE] at h; exact h ▸ hv
  | s :: l, x :: vs, v, w, hv, h => by
    rw [List.zip_cons_cons, putsE] at h
    split at h
    · rename_i he; exact puts_kind (setv_kind5 hv he) h
    · cases h
theorem run_kind {h : HdT} {st arg v : V} {m : List EvT} (hst : st.kind = 5) (hr : h.runE st arg = .ok (v, m)) : v.kind = 5 := by
  unfold HdT.runE at hr
  split at hr
  · cases hr
  · split at hr
    · cases hr
    · rename_i w hp
      split at hr
      · cases hr
      · cases hr; exact puts_kind hst hp
theorem step_good {p : PgT} {st v : V} {e : EvT} {m : List EvT} (hw : p.wf) (hp : p.err = 0) (hst : st.wf) (he : e.wf) (hr : stepE p st e = .ok (v, m)) : st.kind = 5 ∧ v.good ∧ v.kind = 5 ∧ m.length ≤ 8 ∧ ∀ x ∈ m, x.arg.good ∧ nameOk x.name = true := by
  have hq := PgT.ok_of hp
  by_cases h1 : fstE [st.err, if st.kind = 5 then 0 else 81, nameE e.name, e.arg.err] = 0
  · have hz := fstE_all h1
    rcases at_in p e.name with h2 | ⟨k, hk, h2⟩
    · rw [step_2 h1 (by omega)] at hr; cases hr
    · rw [step_3 h1 hk h2] at hr
      have hke : st.kind = 5 := Decidable.byContradiction fun h => by have := hz (if st.kind = 5 then 0 else 81) (by simp); rw [if_neg h] at this; cases this
      have hh := hw.hs _ (List.getElem_mem hk)
      have he0 := hq.2.2.2 _ (List.getElem_mem hk)
      obtain ⟨g1, g2, g3⟩ := run_good hh he0 ⟨hst, hz _ (by simp)⟩ ⟨he.arg, hz _ (by simp)⟩ hr
      refine ⟨hke, g1, run_kind hke hr, g2, fun x hx => ⟨(g3 x hx).1, ?_⟩⟩
      obtain ⟨y, hy, hn⟩ := (g3 x hx).2
      rw [← hn]
      have hh0 := he0
      unfold HdT.err at hh0
      split at hh0
      · cases hh0
      · have := fstE_all hh0 (nameE y.nm) (by unfold HdT.es; simp only [List.mem_cons, List.mem_append, List.mem_flatMap]; exact .inr (.inr ⟨y, hy, by simp [EmT.es]⟩))
        unfold nameE at this
        cases hb : nameOk y.nm with
        | true => rfl
        | false => rw [hb] at this; cases this
  · rw [step_1 h1] at hr; cases hr
theorem evs_nz : ∀ {l : List EX} {s : ScT} {f c : Int}, (∀ x ∈ l, x.Fine) → EX.evs l s f = .error c → c ≠ 0
  | [], s, f, c, _, h => by rw [EX.evs] at h; cases h
  | x :: r, s, f, c, hf, h => by
    rw [EX.evs] at h
    cases h1 : x.ev s f with
    | error d => rw [h1] at h; cases h; exact EX.ev_nz x s f (hf x (by simp)) _ h1
    | ok q =>
      obtain ⟨v, f1⟩ := q
      rw [h1] at h
      simp only [] at h
      cases h2 : EX.evs r s f1 with
      | error d => rw [h2] at h; cases h; exact evs_nz (fun y hy => hf y (by simp [hy])) h2
      | ok q2 => rw [h2] at h; cases h
theorem puts_nz : ∀ {l : List (SetT × V)} {v : V} {c : Int}, putsE v l = .error c → c ≠ 0
  | [], v, c, h => by simp [putsE] at h
  | (s, x) :: r, v, c, h => by
    rw [putsE] at h
    split at h
    · exact puts_nz h
    · cases h; decide
theorem ems_nz : ∀ {l : List EmT} {s : ScT} {f c : Int}, (∀ x ∈ l, x.wh.Fine ∧ x.ar.Fine) → emsE s l f = .error c → c ≠ 0
  | [], s, f, c, _, h => by simp [emsE] at h
  | x :: r, s, f, c, hf, h => by
    rw [emsE] at h
    cases ht : truE (x.wh.ev s f) with
    | error d => rw [ht] at h; cases h; exact Nz.tru (EX.ev_nz x.wh s f (hf x (by simp)).1) _ ht
    | ok q =>
      obtain ⟨t, f1⟩ := q
      rw [ht] at h
      cases t with
      | false => simp only [] at h; exact ems_nz (fun y hy => hf y (by simp [hy])) h
      | true =>
        simp only [] at h
        cases ha : x.ar.ev s f1 with
        | error d => rw [ha] at h; cases h; exact EX.ev_nz x.ar s f1 (hf x (by simp)).2 _ ha
        | ok q2 =>
          obtain ⟨v, f2⟩ := q2
          rw [ha] at h
          simp only [] at h
          cases hr : emsE s r f2 with
          | error d => rw [hr] at h; cases h; exact ems_nz (fun y hy => hf y (by simp [hy])) hr
          | ok q3 => rw [hr] at h; cases h
theorem run_nz {h : HdT} {st arg : V} {c : Int} (hf1 : ∀ x ∈ h.sets, x.ex.Fine) (hf2 : ∀ x ∈ h.ems, x.wh.Fine ∧ x.ar.Fine) (hr : h.runE st arg = .error c) : c ≠ 0 := by
  unfold HdT.runE at hr
  split at hr
  · rename_i e he
    cases hr
    exact evs_nz (fun y hy => by obtain ⟨z, hz, rfl⟩ := List.mem_map.1 hy; exact hf1 z hz) he
  · split at hr
    · rename_i e hp; cases hr; exact puts_nz hp
    · split at hr
      · rename_i e he; cases hr; exact ems_nz hf2 he
      · cases hr
theorem step_nz {p : PgT} {st : V} {e : EvT} (hp : p.err = 0) : ∀ c, stepE p st e = .error c → c ≠ 0 := by
  intro c hc
  by_cases h1 : fstE [st.err, if st.kind = 5 then 0 else 81, nameE e.name, e.arg.err] = 0
  · rcases at_in p e.name with h2 | ⟨k, hk, h2⟩
    · rw [step_2 h1 (by omega)] at hc; cases hc; decide
    · rw [step_3 h1 hk h2] at hc
      have he0 := (PgT.ok_of hp).2.2.2 _ (List.getElem_mem hk)
      obtain ⟨-, hf1, hf2⟩ := HdT.ok_of he0
      exact run_nz hf1 hf2 hc
  · rw [step_1 h1] at hc; cases hc; exact h1
theorem outE_no {r : Except Int (V × List EvT)} {v : V} {m : List EvT} {c : Int} (h : outE r = (v, m, c)) (hc : ¬ c = 0) : r = .error c := by
  cases r with
  | error d => rw [show d = c from (Prod.mk.inj (Prod.mk.inj h).2).2]
  | ok p => exact absurd (Prod.mk.inj (Prod.mk.inj h).2).2.symm hc
theorem outE_yes {r : Except Int (V × List EvT)} {v : V} {m : List EvT} (hn : ∀ c, r = .error c → c ≠ 0) (h : outE r = (v, m, 0)) : r = .ok (v, m) := by
  cases r with
  | error d => exact absurd (Prod.mk.inj (Prod.mk.inj h).2).2 (hn d rfl)
  | ok p => obtain ⟨a, b⟩ := p; obtain ⟨h1, h2⟩ := Prod.mk.inj h; rw [show a = v from h1, show b = m from (Prod.mk.inj h2).1]
theorem fold_ok {fr fr2 c : Bool} {p : PgT} {l : List EvT} (hw : p.wf) (hl : EvT.wfs l) (hb : l.length * 768 ≤ reach) : Fn Tryz.prog 8 [.agg (p.cs fr), .sl fr2 c eEv (EvT.css fr2 l)] (foldAV (foldT p l)) := by
  have hb64 : l.length ≤ 9223372036854775805 := by unfold reach at hb; omega
  refine AC.of_J Tryz.func8 rfl Tryz.ntmps8 rfl fun w0 A0 => ?_
  refine Zs (JL.box_agg (.tmp rfl) rfl fun b2 => JL.alloc z26 rfl rfl fun b4 => Zq rfl (QW.assign .const) (Zq rfl (QW.assign .const) (Zq rfl (QW.assign .const) (Zn (J.seq (Zs (Zq rfl (by first | exact QW.load_box 1 ty38 (.tmp rfl) rfl rfl rfl | exact QW.load_box 1 ty38 (.tmp rfl) rfl (take_at (PgT.cs_length _ _) rfl) (PgT.cs_length _ _)) ?_)))))))
  refine Zq rfl (QW.call gofn20 (.cons (.tmp rfl) .nil) (pcheck_ok hw)) (Zq rfl (QW.assign (.tmp rfl)) (Zn (Zs (Zq rfl (QW.move (.tmp rfl)) (Zq rfl (QW.neq (.tmp rfl) .const) (Zn ?_))))))
  refine J.cond (.tmp rfl) (fun c1 => ?_) (fun c1 => ?_)
  · skip
    have hbad : ¬ p.err = 0 := by simpa using c1
    refine Zs (Zq rfl (QW.build (idx := []) pl26 z26 rfl .nil rfl rfl rfl rfl) (Zq rfl (QW.move (.tmp rfl)) ?_))
    first | refine JL.store_boxF 0 ty26 (.tmp rfl) rfl (.tmp rfl) (by first | rfl | assumption) rfl rfl rfl ?_ | refine JL.store_boxF 0 ty26 (.tmp rfl) rfl (.tmp rfl) (by first | rfl | assumption) rfl vl rfl ?_ | refine JL.store_boxF 0 ty26 (.tmp rfl) rfl (.tmp rfl) (by first | rfl | assumption) vl rfl rfl ?_ | refine JL.store_boxF 0 ty26 (.tmp rfl) rfl (.tmp rfl) (by first | rfl | assumption) vl vl rfl ?_ | refine JL.store_box 0 ty26 (.tmp rfl) rfl (.tmp rfl) (by first | rfl | assumption) rfl rfl rfl rfl ?_ | refine JL.store_box 0 ty26 (.tmp rfl) rfl (.tmp rfl) (by first | rfl | assumption) vl rfl rfl rfl ?_
    exact Zq rfl (QW.assign .const) (Zq rfl (QW.assign .const) (Zq rfl (QW.assign (.tmp rfl)) (Zn (J.ret (thenQ.r (Zr [.k, .k] (RetEv.four rfl (by first | exact REv.cell 0 ty26 rfl rfl rfl rfl (.aggL (.cons lr (.cons lr (.cons lr (.cons (.nil false false _) (.cons (.nil false false _) .nil)))))) | exact REv.cell 0 ty26 rfl rfl (take_at vl rfl) vl (.aggL (.cons lr (.cons lr (.cons lr (.cons (.nil false false _) (.cons (.nil false false _) .nil))))))) (REv.tmp rfl (.nil false false _)) (REv.tmp rfl lr) (REv.tmp rfl lr)) rfl ⟨congrArg (fun r => Res.ret (foldAV r)) ((if_pos hbad : foldT p l = _)).symm, rfl⟩))))))
  have hp : p.err = 0 := by simpa using c1
  refine Zk (Zs (Zq rfl (QW.field_ptr fo38_0 (.tmp rfl) rfl) (Zq rfl (QW.load_box 1 ty26 (.tmp rfl) rfl PgT.at0 vl) (Zq rfl (QW.call gofn21 (.cons (.tmp rfl) .nil) (clone_rd Vc.self hw.init)) (JL.alloc z26 rfl rfl fun b9 => JL.store_boxF 0 ty26 (.tmp rfl) rfl (Ev.le (.tmp rfl) (V.le_tf _)) rfl vl rfl rfl (Zn (Zs (Zq rfl (QW.assign .const) ?_))))))))
  refine Zn (J.seq (Zs (Zq rfl (QW.move (.tmp rfl)) (Zq rfl (by first | exact QW.len_slE sl30 (.tmp rfl) wl | exact QW.len_slE sl30 (.tmp rfl) (HdT.css_length _ _) | exact QW.len_slE sl30 (.tmp rfl) (EvT.css_length _ _) | exact QW.len_sl sl30 (.tmp rfl) | exact QW.len_nil sl30 (.tmp rfl)) ?_))))
  refine Zq rfl (QW.move .const) (Zn (J.block (J.reown (Reown.nilArrE eEv _) (J.loopK (ι := Nat × Value × List EvT × V) [1, 2, 4, 9, 25, 26] (fun ⟨j, v, out, st⟩ => [(27, .c (.int .i64 (j : Int))), (10, .c v)]) (fun ⟨j, v, out, st⟩ oo => List.set (List.set oo 3 (.arr v eEv (EvT.css false out))) 0 (.box b9 (st.cs false))) (fun ⟨j, v, out, st⟩ => j ≤ l.length ∧ out.length ≤ 8 * j ∧ st.wf ∧ foldE p p.init [] l 0 = foldE p st out (l.drop j) (j : Int)) (fun ⟨j, v, out, st⟩ => l.length - j) ⟨0, .slice none 0 0, [], p.init⟩ (⟨Nat.zero_le _, Nat.le_refl _, hw.init, rfl⟩) (Wk.re (.cons rfl lr (.cons rfl lr (.cons rfl lr (.cons rfl lr (.cons rfl lr (.cons rfl lr (.cons rfl lr (.cons rfl lr .nil)))))))) (Reown.refl _) (fun _ h => by first | exact h | simp [h])) ?_))))
  intro ⟨j, v, out, st⟩ ⟨hj, hout, hst, hfd⟩
  refine J.conv (by (try simp only [nl, stepsO, valO, nthO, curO, mrg, AV.cellsOf, splice_zero, splice_succ, Nat.reduceAdd]); rfl) ?_
  refine Zs (Zq rfl (QW.lss (.tmp rfl) (.tmp rfl)) (Zn (J.seq ?_)))
  refine J.cond (.tmp rfl) (fun c2 => ?_) (fun c2 => ?_)
  · skip
    have hlt : j < l.length := by simpa [EvT.css_length] using c2
    obtain ⟨⟨sv, m, cc⟩, hS⟩ : ∃ q, outE (stepE p st l[j]) = q := ⟨_, rfl⟩
    refine Zk (J.seq (J.block (Zs (Zq rfl (QW.move (.tmp rfl)) (Zq rfl (QW.index_sl sl30 ty47 rfl (.tmp rfl) (.tmp rfl) (by first | rfl | omega | (simp; done)) (by exact EvT.css_getE _ hlt)) ?_)))))
    refine Zq rfl (by first | exact QW.load_ref ty47 (.tmp rfl) rfl rfl | exact QW.load_ref ty47 (.tmp rfl) (take_at0 (EvT.cs_length _ _) rfl) (EvT.cs_length _ _)) ?_
    refine JL.alloc z47 rfl rfl fun b12 => Zq rfl (QW.assign (.tmp rfl)) ?_
    first | refine JL.store_boxF 0 ty47 (.tmp rfl) rfl (.tmp rfl) (by first | rfl | assumption) rfl rfl rfl ?_ | refine JL.store_boxF 0 ty47 (.tmp rfl) rfl (.tmp rfl) (by first | rfl | assumption) rfl (EvT.cs_length _ _) rfl ?_ | refine JL.store_boxF 0 ty47 (.tmp rfl) rfl (.tmp rfl) (by first | rfl | assumption) (EvT.cs_length _ _) rfl rfl ?_ | refine JL.store_boxF 0 ty47 (.tmp rfl) rfl (.tmp rfl) (by first | rfl | assumption) (EvT.cs_length _ _) (EvT.cs_length _ _) rfl ?_ | refine JL.store_box 0 ty47 (.tmp rfl) rfl (.tmp rfl) (by first | rfl | assumption) rfl rfl rfl rfl ?_ | refine JL.store_box 0 ty47 (.tmp rfl) rfl (.tmp rfl) (by first | rfl | assumption) (EvT.cs_length _ _) rfl rfl rfl ?_
    refine Zn (Zs (Zq rfl (by first | exact QW.load_box 3 ty38 (.tmp rfl) rfl rfl rfl | exact QW.load_box 3 ty38 (.tmp rfl) rfl (take_at (PgT.cs_length _ _) rfl) (PgT.cs_length _ _)) ?_))
    refine Zq rfl (by first | exact QW.load_box 1 ty26 (.tmp rfl) rfl rfl rfl | exact QW.load_box 1 ty26 (.tmp rfl) rfl (take_at vl rfl) vl) ?_
    refine Zq rfl (by first | exact QW.load_box 0 ty47 (.tmp rfl) rfl rfl rfl | exact QW.load_box 0 ty47 (.tmp rfl) rfl (take_at (EvT.cs_length _ _) rfl) (EvT.cs_length _ _)) ?_
    refine Zq rfl (QW.call gofn22 (.cons (.tmp rfl) (.cons (.tmp rfl) (.cons (.tmp rfl) .nil))) ((hS ▸ pstep_ok (st := st) (e := l[j]) hw hp hst (hl.2 _ (List.getElem_mem hlt))))) (Zq rfl (QW.move (.tmp rfl)) (Zq rfl (QW.extract (.tmp rfl) rfl) (Zq rfl (QW.extract (.tmp rfl) rfl) (Zq rfl (QW.extract (.tmp rfl) rfl) (JL.alloc z26 rfl rfl fun b13 => ?_)))))
    first | refine JL.store_boxF 0 ty26 (.tmp rfl) rfl (.tmp rfl) (by first | rfl | assumption) rfl rfl rfl ?_ | refine JL.store_boxF 0 ty26 (.tmp rfl) rfl (.tmp rfl) (by first | rfl | assumption) rfl vl rfl ?_ | refine JL.store_boxF 0 ty26 (.tmp rfl) rfl (.tmp rfl) (by first | rfl | assumption) vl rfl rfl ?_ | refine JL.store_boxF 0 ty26 (.tmp rfl) rfl (.tmp rfl) (by first | rfl | assumption) vl vl rfl ?_ | refine JL.store_box 0 ty26 (.tmp rfl) rfl (.tmp rfl) (by first | rfl | assumption) rfl rfl rfl rfl ?_ | refine JL.store_box 0 ty26 (.tmp rfl) rfl (.tmp rfl) (by first | rfl | assumption) vl rfl rfl rfl ?_
    refine Zq rfl (QW.assign (.tmp rfl)) (Zq rfl (QW.assign (.tmp rfl)) (Zn (J.seq (Zs (Zq rfl (QW.move (.tmp rfl)) (Zq rfl (QW.neq (.tmp rfl) .const) (Zn ?_)))))))
    refine J.cond (.tmp rfl) (fun c3 => ?_) (fun c3 => ?_)
    · skip
      have hc : ¬ cc = 0 := by simpa using c3
      have hse := outE_no hS hc
      refine J.seq (J.closeArr 5 rfl (by rw [EvT.css_length]; show _ * 96 ≤ _; omega) rfl (fun _ h => by cases h) ?_)
      refine J.region_lit (Zq rfl (by first | exact QW.load_box 2 ty26 (.tmp rfl) rfl rfl rfl | exact QW.load_box 2 ty26 (.tmp rfl) rfl (take_at vl rfl) vl) ?_)
      refine Zq rfl (QW.move (.tmp rfl)) (Zq rfl (QW.move (.tmp rfl)) (Zq rfl (QW.move (.tmp rfl)) ?_))
      first | refine JL.store_boxF 3 ty26 (.tmp rfl) rfl (.tmp rfl) (by first | rfl | assumption) rfl rfl rfl ?_ | refine JL.store_boxF 3 ty26 (.tmp rfl) rfl (.tmp rfl) (by first | rfl | assumption) rfl vl rfl ?_ | refine JL.store_boxF 3 ty26 (.tmp rfl) rfl (.tmp rfl) (by first | rfl | assumption) vl rfl rfl ?_ | refine JL.store_boxF 3 ty26 (.tmp rfl) rfl (.tmp rfl) (by first | rfl | assumption) vl vl rfl ?_ | refine JL.store_box 3 ty26 (.tmp rfl) rfl (.tmp rfl) (by first | rfl | assumption) rfl rfl rfl rfl ?_ | refine JL.store_box 3 ty26 (.tmp rfl) rfl (.tmp rfl) (by first | rfl | assumption) vl rfl rfl rfl ?_
      refine Zq rfl (QW.assign (.tmp rfl)) (Zq rfl (QW.assign (.tmp rfl)) (Zq rfl (QW.assign (.tmp rfl)) (Zn (J.ret (thenQ.r (blkQ.r (thenQ.r (thenQ.r (blkQ.r ?_)))))))))
      exact thenQ.r (Zr [.k, .k, .k, .k, .k] (RetEv.four rfl (by first | exact REv.cell 3 ty26 rfl rfl rfl rfl (.refl _) | exact REv.cell 3 ty26 rfl rfl (take_at vl rfl) vl (.refl _)) (REv.tmp rfl (.fact (by simp) (.slL (fr := true) (clip := false) (fun h => by cases h) rfl (EvT.css_sz false _) (.refl _)))) (REv.tmp rfl lr) (REv.tmp rfl lr)) rfl ⟨congrArg (fun r => Res.ret (foldAV r)) (((if_neg (fun h => h hp) : foldT p l = _).trans (hfd.trans (fold_bad hlt hse)))).symm, rfl⟩)
    obtain rfl : cc = 0 := by simpa using c3
    have hse := outE_yes (step_nz hp) hS
    obtain ⟨-, hsg, -, hm8, -⟩ := step_good hw hp hst (hl.2 _ (List.getElem_mem hlt)) hse
    refine Zk (J.regionK [10] mixed (Zo 0 0 [] rfl (fun _ ho_ => by first | exact QW.load_box 0 ty26 (.tmp rfl) ho_ rfl rfl | exact QW.load_box 0 ty26 (.tmp rfl) ho_ (take_at vl rfl) vl) ?_))
    refine Zf 1 [] rfl (fun _ => QW.move (.tmp rfl)) (Zf 2 [] rfl (fun _ => QW.move (.tmp rfl)) (JX.one 3 [true, true, false] rfl (by kernel_rfl) (by kernel_rfl) rfl rfl (by kernel_rfl) rfl fun bs3_ pe_ ex_ => ?_))
    refine JL.conv (by (try simp only [vlF, bxF, tkM, lvM, Flt.val, Flt.bx, nx, nl, stepsO, valO, nthO, curO, mrg, AV.cellsOf, splice_zero, splice_succ, Nat.reduceAdd]); rfl) ?_
    refine JL.append 5 sl32 el51 rfl (.tmp rfl) rfl (srcA_sl sl32 (.tmp rfl)) (by rw [EvT.css_length, EvT.css_length]; show (_ + _) * 96 ≤ _; omega) rfl fun v49 => ?_
    refine JL.nil ?_
    refine thenQ.n ⟨[_], _, rfl, rfl, rfl, rfl, rfl, Reown.tkN 6 rfl, ⟨rfl, rfl⟩, ⟨rfl, trivial⟩, ?_⟩
    refine JX.conv (S' := [3, 2, 1]) rfl (by (try simp only [lvM]); rfl) (by (try simp only [vlF, bxF, tkM, lvM, Flt.val, Flt.bx, nx, nl, stepsO, valO, nthO, curO, mrg, AV.cellsOf, splice_zero, splice_succ, Nat.reduceAdd]); rfl) ?_
    refine JX.one 4 [true] rfl (by kernel_rfl) (by kernel_rfl) rfl rfl (by kernel_rfl) rfl fun bs4_ pe_ ex_ => ?_
    refine JL.conv (by (try simp only [vlF, bxF, tkM, lvM, Flt.val, Flt.bx, nx, nl, stepsO, valO, nthO, curO, mrg, AV.cellsOf, splice_zero, splice_succ, Nat.reduceAdd]); rfl) ?_
    first | refine JL.store_boxF 2 ty26 (.tmp rfl) rfl (.tmp rfl) (by first | rfl | assumption) rfl rfl rfl ?_ | refine JL.store_boxF 2 ty26 (.tmp rfl) rfl (.tmp rfl) (by first | rfl | assumption) rfl vl rfl ?_ | refine JL.store_boxF 2 ty26 (.tmp rfl) rfl (.tmp rfl) (by first | rfl | assumption) vl rfl rfl ?_ | refine JL.store_boxF 2 ty26 (.tmp rfl) rfl (.tmp rfl) (by first | rfl | assumption) vl vl rfl ?_ | refine JL.store_box 2 ty26 (.tmp rfl) rfl (.tmp rfl) (by first | rfl | assumption) rfl rfl rfl rfl ?_ | refine JL.store_box 2 ty26 (.tmp rfl) rfl (.tmp rfl) (by first | rfl | assumption) vl rfl rfl rfl ?_
    refine JL.nil ?_
    refine thenQ.n ⟨[], _, rfl, rfl, rfl, rfl, rfl, Reown.tkN 6 rfl, trivial, trivial, ?_⟩
    refine JX.conv (S' := [4, 0, 3, 2, 1]) rfl (by (try simp only [lvM]); rfl) (by (try simp only [vlF, bxF, tkM, lvM, Flt.val, Flt.bx, nx, nl, stepsO, valO, nthO, curO, mrg, AV.cellsOf, splice_zero, splice_succ, Nat.reduceAdd]); rfl) ?_
    refine JX.last 5 rfl (by kernel_rfl) (by kernel_rfl) rfl rfl (by kernel_rfl) (by kernel_rfl) fun bs_ => ?_
    refine JL.conv (by (try simp only [vlF, bxF, tkM, lvM, Flt.val, Flt.bx, nx, nl, stepsO, valO, nthO, curO, mrg, AV.cellsOf, splice_zero, splice_succ, Nat.reduceAdd]); rfl) ?_
    refine Zq rfl (QW.assign (.tmp rfl)) (Zn (blkQ.n (thenQ.n (J.region_lit (Zq rfl (QW.add (.tmp rfl) .const (by first | exact w64n (by first | rfl | omega | (simp; done)) (by omega) | exact w64 (by omega) | rfl)) ?_)))))
    refine Zq rfl (QW.move (.tmp rfl)) (Zn ?_)
    rw [← EvT.css_append]
    exact ⟨⟨j + 1, v49, out ++ m, sv⟩, ⟨hlt, by rw [List.length_append]; omega, hsg.wf, by rw [hfd, fold_go hlt hse]; simp⟩, by show l.length - (j + 1) < l.length - j; omega, Wk.re (.cons rfl lr (.cons rfl lr (.cons rfl lr (.cons rfl lr (.cons rfl lr (.cons rfl lr (.cons rfl lr (.cons rfl lr .nil)))))))) (Reown.dropN 2 _ rfl) (fun _ h => by first | exact h | simp [h])⟩
  obtain rfl : j = l.length := by (simp [EvT.css_length] at c2; omega)
  rw [List.drop_length, foldE] at hfd
  refine J.exit (thenQ.x (thenQ.x (blkQ.hit (thenQ.n (J.seq (J.closeArr 3 rfl (by rw [EvT.css_length]; show _ * 96 ≤ _; omega) rfl (fun _ h => by cases h) ?_))))))
  refine J.region_lit (Zq rfl (by first | exact QW.load_box 0 ty26 (.tmp rfl) rfl rfl rfl | exact QW.load_box 0 ty26 (.tmp rfl) rfl (take_at vl rfl) vl) ?_)
  refine Zq rfl (QW.move (.tmp rfl)) (Zq rfl (QW.move (.tmp rfl)) (Zq rfl (by first | exact QW.len_slE sl30 (.tmp rfl) wl | exact QW.len_slE sl30 (.tmp rfl) (HdT.css_length _ _) | exact QW.len_slE sl30 (.tmp rfl) (EvT.css_length _ _) | exact QW.len_sl sl30 (.tmp rfl) | exact QW.len_nil sl30 (.tmp rfl)) ?_))
  first | refine JL.store_boxF 1 ty26 (.tmp rfl) rfl (.tmp rfl) (by first | rfl | assumption) rfl rfl rfl ?_ | refine JL.store_boxF 1 ty26 (.tmp rfl) rfl (.tmp rfl) (by first | rfl | assumption) rfl vl rfl ?_ | refine JL.store_boxF 1 ty26 (.tmp rfl) rfl (.tmp rfl) (by first | rfl | assumption) vl rfl rfl ?_ | refine JL.store_boxF 1 ty26 (.tmp rfl) rfl (.tmp rfl) (by first | rfl | assumption) vl vl rfl ?_ | refine JL.store_box 1 ty26 (.tmp rfl) rfl (.tmp rfl) (by first | rfl | assumption) rfl rfl rfl rfl ?_ | refine JL.store_box 1 ty26 (.tmp rfl) rfl (.tmp rfl) (by first | rfl | assumption) vl rfl rfl rfl ?_
  exact Zq rfl (QW.assign (.tmp rfl)) (Zq rfl (QW.assign (.tmp rfl)) (Zq rfl (QW.assign .const) (Zn (J.ret (Zr [.k, .k, .k] (RetEv.four rfl (by first | exact REv.cell 1 ty26 rfl rfl rfl rfl (.refl _) | exact REv.cell 1 ty26 rfl rfl (take_at vl rfl) vl (.refl _)) (REv.tmp rfl (.fact (by simp) (.slL (fr := true) (clip := false) (fun h => by cases h) rfl (EvT.css_sz false _) (.refl _)))) (REv.tmp rfl lr) (REv.tmp rfl lr)) rfl ⟨congrArg (fun r => Res.ret (foldAV r)) (((if_neg (fun h => h hp) : foldT p l = _).trans hfd)).symm, rfl⟩)))))
end Go.Proofs.YtmccnmahegbmpaaGreat.J

/- The page's small program, reckoned. -/
namespace Go.Proofs.YtmccnmahegbmpaaGreat.J
open Go Go.RowKit
def dN : EX := .mk 8 0 [110] [.mk 5 0 [] []]
def d1 : EX := .mk 3 4607182418800017408 [] []
def dAdd : EX := .mk 11 0 [] [dN, d1]
def dLes : EX := .mk 17 0 [] [d1, dN]
def dHd : HdT := ⟨[117, 112], [⟨[110], dAdd⟩], [⟨dLes, [116, 101, 108, 108], dN⟩]⟩
def dSt (b : Nat) : V := .mk 5 0 [] [[110]] [.mk 2 b [] [] []]
def dP : PgT := ⟨dSt 0, [dHd]⟩
def dUp : EvT := ⟨[117, 112], .nil⟩
theorem dP_err : dP.err = 0 := by kernel_rfl
theorem d_evs1 {x : EX} {s : ScT} {f f1 : Int} {v : V} (h : x.ev s f = .ok (v, f1)) : EX.evs [x] s f = .ok ([v], f1) := by
  rw [EX.evs, h]; simp only []; rw [EX.evs]
theorem d_evs2 {x y : EX} {s : ScT} {f f1 f2 : Int} {v w : V} (h : x.ev s f = .ok (v, f1)) (h2 : y.ev s f1 = .ok (w, f2)) : EX.evs [x, y] s f = .ok ([v, w], f2) := by
  rw [EX.evs, h]; simp only []; rw [d_evs1 h2]
theorem dN_ev {s : ScT} {f : Int} {x : V} (hf : 2 ≤ f) (h : getE s.st ⟨true, [110], 0⟩ = .ok x) : dN.ev s f = .ok (x, f - 2) := by
  refine (ev_pl (by omega) (by decide)).trans (plE_ok (vs := [s.st]) (f1 := f - 2) ?_ ?_)
  · rw [show f - 2 = f - 1 - 1 by omega]; exact d_evs1 (ev_5 (by omega))
  · exact h
theorem d1_ev {s : ScT} {f : Int} (hf : 1 ≤ f) : d1.ev s f = .ok (.nu 4607182418800017408, f - 1) := ev_3 (by omega)
theorem dAdd_ev {s : ScT} {f : Int} {x : Nat} (hf : 4 ≤ f) (h : getE s.st ⟨true, [110], 0⟩ = .ok (.nu x)) : dAdd.ev s f = .ok (.nu (arithN .add x 4607182418800017408), f - 4) := by
  refine (ev_pl (by omega) (by decide)).trans (plE_ok (vs := [.nu x, .nu 4607182418800017408]) (f1 := f - 4) ?_ rfl)
  exact d_evs2 (dN_ev (by omega) h) (by rw [show f - 4 = f - 1 - 2 - 1 by omega]; exact d1_ev (by omega))
theorem dLes_ev {s : ScT} {f : Int} {x : Nat} (hf : 4 ≤ f) (h : getE s.st ⟨true, [110], 0⟩ = .ok (.nu x)) : dLes.ev s f = .ok (.tr (decide ((V.nu 4607182418800017408).ord (.nu x) < 0)), f - 4) := by
  refine (ev_pl (by omega) (by decide)).trans (plE_ok (vs := [.nu 4607182418800017408, .nu x]) (f1 := f - 4) ?_ rfl)
  exact d_evs2 (d1_ev (by omega)) (by rw [show f - 4 = f - 1 - 1 - 2 by omega]; exact dN_ev (by omega) h)
theorem dget0 : getE (dSt 0) ⟨true, [110], 0⟩ = .ok (.nu 0) := by kernel_rfl
theorem dget1 : getE (dSt 4607182418800017408) ⟨true, [110], 0⟩ = .ok (.nu 4607182418800017408) := by kernel_rfl
theorem dget2 : getE (dSt 4611686018427387904) ⟨true, [110], 0⟩ = .ok (.nu 4611686018427387904) := by kernel_rfl
theorem dadd0 : arithN .add 0 4607182418800017408 = 4607182418800017408 := by kernel_rfl
theorem dadd1 : arithN .add 4607182418800017408 4607182418800017408 = 4611686018427387904 := by kernel_rfl
theorem dset0 : putsE (dSt 0) [(⟨[110], dAdd⟩, .nu 4607182418800017408)] = .ok (dSt 4607182418800017408) := by kernel_rfl
theorem dset1 : putsE (dSt 4607182418800017408) [(⟨[110], dAdd⟩, .nu 4611686018427387904)] = .ok (dSt 4611686018427387904) := by kernel_rfl
theorem dles1 : (decide ((V.nu 4607182418800017408).ord (.nu 4607182418800017408) < 0)) = false := by kernel_rfl
theorem dles2 : (decide ((V.nu 4607182418800017408).ord (.nu 4611686018427387904) < 0)) = true := by kernel_rfl
theorem drun0 : dHd.runE (dSt 0) .nil = .ok (dSt 4607182418800017408, []) := by
  refine runE_ok (f := 4092) (g := 4088) (setsE_ok (vs := [.nu 4607182418800017408]) (d_evs1 (dadd0 ▸ dAdd_ev (s := ⟨dSt 0, .nil, .nil⟩) (by decide) dget0)) dset0) ?_
  show emsE ⟨dSt 4607182418800017408, .nil, .nil⟩ [⟨dLes, [116, 101, 108, 108], dN⟩] 4092 = _
  rw [emsE, truE_yes (dles1 ▸ dLes_ev (s := ⟨dSt 4607182418800017408, .nil, .nil⟩) (by decide) dget1) rfl]
  rfl
theorem drun1 : dHd.runE (dSt 4607182418800017408) .nil = .ok (dSt 4611686018427387904, [⟨[116, 101, 108, 108], .nu 4611686018427387904⟩]) := by
  refine runE_ok (f := 4092) (g := 4086) (setsE_ok (vs := [.nu 4611686018427387904]) (d_evs1 (dadd1 ▸ dAdd_ev (s := ⟨dSt 4607182418800017408, .nil, .nil⟩) (by decide) dget1)) dset1) ?_
  refine (joinM_nil _).trans ((ems_yes (l := [⟨dLes, [116, 101, 108, 108], dN⟩]) (s := ⟨dSt 4611686018427387904, .nil, .nil⟩) (j := 0) (es := []) (g := 4092) (g2 := 4088) (g3 := 4086) (v := .nu 4611686018427387904) (by decide) ?_ ?_).trans ?_)
  · exact truE_yes (dles2 ▸ dLes_ev (s := ⟨dSt 4611686018427387904, .nil, .nil⟩) (f := 4092) (by decide) dget2) rfl
  · exact dN_ev (s := ⟨dSt 4611686018427387904, .nil, .nil⟩) (f := 4088) (by decide) dget2
  · exact ems_done _ _ _
theorem dstep0 : stepE dP (dSt 0) dUp = .ok (dSt 4607182418800017408, []) := (step_3 (m := 0) (by kernel_rfl) (by decide) (by kernel_rfl)).trans drun0
theorem dstep1 : stepE dP (dSt 4607182418800017408) dUp = .ok (dSt 4611686018427387904, [⟨[116, 101, 108, 108], .nu 4611686018427387904⟩]) := (step_3 (m := 0) (by kernel_rfl) (by decide) (by kernel_rfl)).trans drun1
theorem dfold : foldT dP [dUp, dUp] = (dSt 4611686018427387904, [⟨[116, 101, 108, 108], .nu 4611686018427387904⟩], 2, 0) := by
  refine (if_neg (fun h => h dP_err)).trans ?_
  show foldE dP (dSt 0) [] [dUp, dUp] 0 = _
  rw [foldE, dstep0]; simp only []
  rw [foldE, dstep1]; simp only []
  rw [foldE]; rfl
end Go.Proofs.YtmccnmahegbmpaaGreat.J

/- Walks: a program, in memory of its own. -/
namespace Go.Proofs.YtmccnmahegbmpaaGreat.J
open Go Go.RowKit
set_option maxRecDepth 10000
set_option maxHeartbeats 4000000
theorem SetT.css_take {fr : Bool} {l : List SetT} {j : Nat} (h : j < l.length) : SetT.css fr (l.take j) ++ [l[j].cs fr] = SetT.css fr (l.take (j + 1)) := by rw [List.take_succ_eq_append_getElem h, SetT.css_snoc]
theorem EmT.css_take {fr : Bool} {l : List EmT} {j : Nat} (h : j < l.length) : EmT.css fr (l.take j) ++ [l[j].cs fr] = EmT.css fr (l.take (j + 1)) := by rw [List.take_succ_eq_append_getElem h, EmT.css_snoc]
theorem HdT.css_take {fr : Bool} {l : List HdT} {j : Nat} (h : j < l.length) : HdT.css fr (l.take j) ++ [l[j].cs fr] = HdT.css fr (l.take (j + 1)) := by rw [List.take_succ_eq_append_getElem h, HdT.css_snoc]
theorem hd_le {F : List (Value × AV)} {h : HdT} {v1 v2 : Value} (h1 : (v1, AV.sl true false eSe (SetT.css true h.sets)) ∈ F) (h2 : (v2, AV.sl true false eEm (EmT.css true h.ems)) ∈ F) : Le F (.agg [.c (str h.on), .c v1, .c v2]) (.agg (h.cs true)) :=
  .aggL (.cons (.refl _) (.cons (.fact h1 (.refl _)) (.cons (.fact h2 (.refl _)) .nil)))
theorem fill_se {c a0 a1 a2 a3 a4 : AV} {z : List AV} (hz : z.length = 4) : fillA ([(0, 1), (1, 4)].toArray[·]?) [a0, a1, a2, a3, a4] [(0, [c]), (1, z)] = some (c :: z) := by
  have h1 : splice [c, a1, a2, a3, a4] 1 z = c :: z := by
    rw [splice_succ, splice_all (by rw [hz]; rfl)]
  simp [fillA, splice_zero, hz, h1]
theorem fill_em {c : AV} : ∀ {a z y : List AV}, a.length = 9 → z.length = 4 → y.length = 4 → fillA ([(0, 4), (4, 1), (5, 4)].toArray[·]?) a [(0, z), (1, [c]), (2, y)] = some (z ++ c :: y)
  | [a0, a1, a2, a3, a4, a5, a6, a7, a8], [z0, z1, z2, z3], [y0, y1, y2, y3], _, _, _ => rfl
theorem of16_ok {p : PgT} (hw : p.wf) : Fn Tryz.prog 9 [.agg (p.cs false)] (.agg (p.cs true)) := by
  obtain ⟨⟨k, bt, t, ks, is⟩, hs⟩ := p
  obtain ⟨hiw, hlen, hhw⟩ := hw
  simp only at hiw hlen hhw
  have hlen2 : hs.length ≤ 9223372036854775805 := by unfold reach at hlen; omega
  refine AC.of_J Tryz.func9 rfl Tryz.ntmps9 rfl fun w0 A0 => ?_
  refine Zs (JL.box_agg (.tmp rfl) rfl fun b1 => JL.alloc z38 rfl rfl fun b2 => Zn (Zs (Zq rfl (QW.field_ptr fo29_0 (.tmp rfl) rfl) (Zq rfl (by first | exact QW.load_box 1 ty26 (.tmp rfl) rfl rfl rfl | exact QW.load_box 1 ty26 (.tmp rfl) rfl (take_at vl rfl) vl) ?_))))
  refine Zq rfl (QW.call gofn23 (.cons (.tmp rfl) .nil) (copyValue_rd (fr := false) (v := .mk k bt t ks is) Vc.self hiw)) (Zq rfl (QW.build (idx := [0]) pl38 z38 rfl (.cons (.tmp rfl) .nil) rfl rfl rfl rfl) (JL.alloc z38 rfl rfl fun b3 => ?_))
  first | refine JL.store_boxF 0 ty38 (.tmp rfl) rfl (.tmp rfl) (by first | rfl | assumption) rfl rfl rfl ?_ | refine JL.store_boxF 0 ty38 (.tmp rfl) rfl (.tmp rfl) (by first | rfl | assumption) rfl rfl rfl ?_ | refine JL.store_boxF 0 ty38 (.tmp rfl) rfl (.tmp rfl) (by first | rfl | assumption) rfl rfl rfl ?_ | refine JL.store_boxF 0 ty38 (.tmp rfl) rfl (.tmp rfl) (by first | rfl | assumption) rfl rfl rfl ?_ | refine JL.store_box 0 ty38 (.tmp rfl) rfl (.tmp rfl) (by first | rfl | assumption) rfl rfl rfl rfl ?_ | refine JL.store_box 0 ty38 (.tmp rfl) rfl (.tmp rfl) (by first | rfl | assumption) rfl rfl rfl rfl ?_
  refine Zn (J.seq (Zs (Zq rfl (QW.assign .const) (Zn (J.block (J.reown (Reown.nilArrE eHd _) (J.loopK (ι := Nat × Value) [1, 2, 3] (fun ⟨i, v⟩ => [(4, .c (.int .i64 (i : Int)))]) (fun ⟨i, v⟩ oo => List.set (List.set oo 3 (.arr v eHd (HdT.css true (hs.take i)))) 0 (.box b3 (V.cs true (.mk k bt t ks is) ++ [.c v]))) (fun ⟨i, v⟩ => i ≤ hs.length) (fun ⟨i, v⟩ => hs.length - i) ⟨0, .slice none 0 0⟩ (Nat.zero_le _) (Wk.re (.cons rfl lr (.cons rfl lr (.cons rfl lr (.cons rfl lr .nil)))) (Reown.refl _) (fun _ h => by first | exact h | simp [h])) ?_)))))))
  intro ⟨i, v⟩ hi
  refine J.conv (by (try simp only [nl, stepsO, valO, nthO, curO, mrg, AV.cellsOf, splice_zero, splice_succ, Nat.reduceAdd]); rfl) ?_
  refine J.seq (Zs (Zq rfl (QW.move (.tmp rfl)) (Zq rfl (QW.field_ptr fo29_1 (.tmp rfl) rfl) (Zq rfl (QW.load_box1 2 ty27 (.tmp rfl) rfl rfl) (Zq rfl (by first | exact QW.len_slE sl27 (.tmp rfl) wl | exact QW.len_slE sl27 (.tmp rfl) (HdT.css_length _ _) | exact QW.len_slE sl27 (.tmp rfl) (SetT.css_length _ _) | exact QW.len_slE sl27 (.tmp rfl) (EmT.css_length _ _) | exact QW.len_sl sl27 (.tmp rfl) | exact QW.len_nil sl27 (.tmp rfl)) ?_)))))
  refine Zq rfl (QW.lss (.tmp rfl) (.tmp rfl)) (Zn ?_)
  refine J.cond (.tmp rfl) (fun c1 => ?_) (fun c1 => ?_)
  · skip
    have hlt : i < hs.length := by simpa [HdT.css_length] using c1
    have hh := hhw _ (List.getElem_mem hlt)
    have hsl2 : hs[i].sets.length ≤ 9223372036854775805 := by have := hh.slen; unfold reach at this; omega
    have hel2 : hs[i].ems.length ≤ 9223372036854775805 := by have := hh.elen; unfold reach at this; omega
    refine Zk (J.seq (J.block (Zs (Zq rfl (QW.field_ptr fo29_1 (.tmp rfl) rfl) (Zq rfl (QW.load_box1 2 ty27 (.tmp rfl) rfl rfl) (Zq rfl (QW.move (.tmp rfl)) (Zq rfl (QW.index_sl sl27 ty57 rfl (.tmp rfl) (.tmp rfl) (by first | rfl | omega | (simp; done)) (by exact HdT.css_getE _ hlt)) ?_)))))))
    refine Zq rfl (by first | exact QW.load_ref ty57 (.tmp rfl) rfl rfl | exact QW.load_ref ty57 (.tmp rfl) (take_at0 rfl rfl) rfl) ?_
    refine JL.alloc z57 rfl rfl fun b5 => ?_
    first | refine JL.store_boxF 0 ty57 (.tmp rfl) rfl (.tmp rfl) (by first | rfl | assumption) rfl rfl rfl ?_ | refine JL.store_boxF 0 ty57 (.tmp rfl) rfl (.tmp rfl) (by first | rfl | assumption) rfl rfl rfl ?_ | refine JL.store_boxF 0 ty57 (.tmp rfl) rfl (.tmp rfl) (by first | rfl | assumption) rfl rfl rfl ?_ | refine JL.store_boxF 0 ty57 (.tmp rfl) rfl (.tmp rfl) (by first | rfl | assumption) rfl rfl rfl ?_ | refine JL.store_box 0 ty57 (.tmp rfl) rfl (.tmp rfl) (by first | rfl | assumption) rfl rfl rfl rfl ?_ | refine JL.store_box 0 ty57 (.tmp rfl) rfl (.tmp rfl) (by first | rfl | assumption) rfl rfl rfl rfl ?_
    refine Zn (Zs (Zq rfl (QW.field_ptr fo57_0 (.tmp rfl) rfl) (Zq rfl (QW.load_box1 0 ty9 (.tmp rfl) rfl rfl) (Zq rfl (QW.build (idx := [0]) pl76 z76 rfl (.cons (.tmp rfl) .nil) rfl rfl rfl rfl) (JL.alloc z76 rfl rfl fun b6 => ?_)))))
    first | refine JL.store_boxF 0 ty76 (.tmp rfl) rfl (.tmp rfl) (by first | rfl | assumption) rfl rfl rfl ?_ | refine JL.store_boxF 0 ty76 (.tmp rfl) rfl (.tmp rfl) (by first | rfl | assumption) rfl rfl rfl ?_ | refine JL.store_boxF 0 ty76 (.tmp rfl) rfl (.tmp rfl) (by first | rfl | assumption) rfl rfl rfl ?_ | refine JL.store_boxF 0 ty76 (.tmp rfl) rfl (.tmp rfl) (by first | rfl | assumption) rfl rfl rfl ?_ | refine JL.store_box 0 ty76 (.tmp rfl) rfl (.tmp rfl) (by first | rfl | assumption) rfl rfl rfl rfl ?_ | refine JL.store_box 0 ty76 (.tmp rfl) rfl (.tmp rfl) (by first | rfl | assumption) rfl rfl rfl rfl ?_
    refine Zn (J.seq (Zs (Zq rfl (QW.assign .const) (Zn (J.block (J.reown (Reown.nilArrE eSe _) (J.loopK (ι := Nat × Value) [1, 2, 3, 4, 5, 6, 13, 14, 15, 16, 17, 20, 21, 22, 23, 24, 25, 26, 27] (fun ⟨j, v1⟩ => [(7, .c (.int .i64 (j : Int)))]) (fun ⟨j, v1⟩ oo => List.set (List.set oo 6 (.arr v1 eSe (SetT.css true (hs[i].sets.take j)))) 0 (.box b6 [.c (str hs[i].on), .c v1, .c (.slice none 0 0)])) (fun ⟨j, v1⟩ => j ≤ hs[i].sets.length) (fun ⟨j, v1⟩ => hs[i].sets.length - j) ⟨0, .slice none 0 0⟩ (Nat.zero_le _) (Wk.re (.cons rfl lr (.cons rfl lr (.cons rfl lr (.cons rfl lr (.cons rfl lr (.cons rfl lr (.cons rfl lr (.cons rfl lr (.cons rfl lr (.cons rfl lr (.cons rfl lr (.cons rfl lr (.cons rfl lr (.cons rfl lr (.cons rfl lr (.cons rfl lr (.cons rfl lr (.cons rfl lr (.cons rfl lr (.cons rfl lr .nil)))))))))))))))))))) (Reown.refl _) (fun _ h => by first | exact h | simp [h])) ?_)))))))
    intro ⟨j, v1⟩ hj
    refine J.conv (by (try simp only [nl, stepsO, valO, nthO, curO, mrg, AV.cellsOf, splice_zero, splice_succ, Nat.reduceAdd]); rfl) ?_
    refine J.seq (Zs (Zq rfl (QW.move (.tmp rfl)) (Zq rfl (QW.field_ptr fo57_1 (.tmp rfl) rfl) (Zq rfl (QW.load_box1 1 ty54 (.tmp rfl) rfl rfl) (Zq rfl (by first | exact QW.len_slE sl54 (.tmp rfl) wl | exact QW.len_slE sl54 (.tmp rfl) (HdT.css_length _ _) | exact QW.len_slE sl54 (.tmp rfl) (SetT.css_length _ _) | exact QW.len_slE sl54 (.tmp rfl) (EmT.css_length _ _) | exact QW.len_sl sl54 (.tmp rfl) | exact QW.len_nil sl54 (.tmp rfl)) ?_)))))
    refine Zq rfl (QW.lss (.tmp rfl) (.tmp rfl)) (Zn ?_)
    refine J.cond (.tmp rfl) (fun c2 => ?_) (fun c2 => ?_)
    · skip
      have hlt2 : j < hs[i].sets.length := by simpa [SetT.css_length] using c2
      refine Zk (J.seq (J.block (J.regionX mixed (Zf 0 [] rfl (fun _ => QW.field_ptr fo76_1 (.tmp rfl) rfl) (Zo 1 0 [35] rfl (fun _ ho_ => QW.load_box1 0 ty73 (.tmp rfl) ho_ rfl) (Zf 2 [] rfl (fun _ => QW.field_ptr fo57_1 (.tmp rfl) rfl) (Zo 3 1 [37] rfl (fun _ ho_ => QW.load_box1 1 ty54 (.tmp rfl) ho_ rfl) (Zf 4 [] rfl (fun _ => QW.move (.tmp rfl)) (Zf 5 [38, 39] rfl (fun _ => QW.index_sl sl54 ty62 rfl (.tmp rfl) (.tmp rfl) (by first | rfl | omega | (simp; done)) (by exact SetT.css_getE _ hlt2)) ?_)))))))))
      refine Zf 6 [40] rfl (fun _ => QW.field_ref fo62_0 (.tmp rfl) rfl) (Zf 7 [41] rfl (fun _ => QW.load_ref1 ty9 (.tmp rfl) rfl) (Zf 8 [] rfl (fun _ => QW.field_ptr fo57_1 (.tmp rfl) rfl) (Zo 9 1 [43] rfl (fun _ ho_ => QW.load_box1 1 ty54 (.tmp rfl) ho_ rfl) (Zf 10 [] rfl (fun _ => QW.move (.tmp rfl)) (Zf 11 [44, 45] rfl (fun _ => QW.index_sl sl54 ty62 rfl (.tmp rfl) (.tmp rfl) (by first | rfl | omega | (simp; done)) (by exact SetT.css_getE _ hlt2)) ?_)))))
      refine Zf 12 [46] rfl (fun _ => QW.field_ref fo62_1 (.tmp rfl) rfl) (Zf 13 [47] rfl (fun _ => QW.load_ref ty60 (.tmp rfl) SetT.at1 xl) (Zf 14 [48] rfl (fun _ => QW.call gofn24 (.cons (.tmp rfl) .nil) (of14_ok Xc.self (hh.sets _ (List.getElem_mem hlt2)).ex)) (Zf 15 [42, 49] rfl (fun _ => QW.build (idx := [0, 1]) pl82 z82 rfl (.cons (.tmp rfl) (.cons (.tmp rfl) .nil)) rfl rfl rfl (by exact fill_se xl)) ?_)))
      refine Zf 16 [50] rfl (fun _ => QW.buildSlice (idx := [0]) (xs := [SetT.cs true hs[i].sets[j]]) (zs := [AV.agg (SetT.cs true hs[i].sets[j])]) sl73 el82 z82 rfl (.cons (.tmp rfl) .nil) rfl rfl rfl rfl rfl (by exact fillOne (SetT.cs_length _ _)) rfl (allOne (SetT.cs_length _ _)) rfl) ?_
      refine JX.one 17 [true, true, true, true, true, true, true, true, true, true, true, true, true, true, true, true, true] rfl (by kernel_rfl) (by kernel_rfl) rfl rfl (by kernel_rfl) rfl fun bs17_ pe_ ex_ => ?_
      refine JL.conv (by (try simp only [vlF, bxF, tkM, lvM, Flt.val, Flt.bx, nx, nl, stepsO, valO, nthO, curO, mrg, AV.cellsOf, splice_zero, splice_succ, Nat.reduceAdd]); rfl) ?_
      refine JL.append 6 sl73 el82 rfl (.tmp rfl) rfl (srcA_sl sl73 (.tmp rfl)) (by rw [SetT.css_length, List.length_take]; show (_ + 1) * 72 ≤ _; have := hh.slen; omega) rfl fun v52 => ?_
      refine JL.nil ?_
      refine thenQ.n ⟨[_], _, rfl, rfl, rfl, rfl, rfl, Reown.tkN 7 rfl, ⟨rfl, rfl⟩, trivial, ?_⟩
      refine JX.conv (S' := [17, 16, 15, 14, 13, 12, 11, 10, 9, 8, 7, 6, 5, 4, 3, 2, 1, 0]) rfl (by (try simp only [lvM]); rfl) (by (try simp only [vlF, bxF, tkM, lvM, Flt.val, Flt.bx, nx, nl, stepsO, valO, nthO, curO, mrg, AV.cellsOf, splice_zero, splice_succ, Nat.reduceAdd]); rfl) ?_
      refine Zf 18 [] rfl (fun _ => QW.field_ptr fo76_1 (.tmp rfl) rfl) (JX.one 19 [true] rfl (by kernel_rfl) (by kernel_rfl) rfl rfl (by kernel_rfl) rfl fun bs19_ pe_ ex_ => ?_)
      refine JL.conv (by (try simp only [vlF, bxF, tkM, lvM, Flt.val, Flt.bx, nx, nl, stepsO, valO, nthO, curO, mrg, AV.cellsOf, splice_zero, splice_succ, Nat.reduceAdd]); rfl) ?_
      refine JL.isSlice 6 rfl fun hs1 => JL.store_box 0 ty73 (.tmp rfl) rfl (.tmp rfl) (by first | rfl | assumption) rfl rfl rfl rfl ?_
      refine JL.nil ?_
      refine thenQ.n ⟨[], _, rfl, rfl, rfl, rfl, rfl, Reown.tkN 7 rfl, trivial, trivial, ?_⟩
      refine JX.conv (S' := [19, 18, 17, 16, 15, 14, 13, 12, 11, 10, 9, 8, 7, 6, 5, 4, 3, 2, 1, 0]) rfl (by (try simp only [lvM]); rfl) (by (try simp only [vlF, bxF, tkM, lvM, Flt.val, Flt.bx, nx, nl, stepsO, valO, nthO, curO, mrg, AV.cellsOf, splice_zero, splice_succ, Nat.reduceAdd]); rfl) ?_
      refine JX.fin (by kernel_rfl) (by kernel_rfl) fun bs_ => ?_
      refine QX.conv (by (try simp only [vlF, bxF, tkM, lvM, Flt.val, Flt.bx, nx, nl, stepsO, valO, nthO, curO, mrg, AV.cellsOf, splice_zero, splice_succ, Nat.reduceAdd]); rfl) ?_
      refine blkQ.n (thenQ.n (J.region_lit (Zq rfl (QW.move (.tmp rfl)) (Zq rfl (QW.add (.tmp rfl) .const (by first | exact w64n (by first | rfl | omega | (simp; done)) (by omega) | exact w64 (by omega) | rfl)) ?_))))
      refine Zq rfl (QW.assign (.tmp rfl)) (Zn ?_)
      rw [SetT.css_take hlt2]
      exact ⟨⟨j + 1, v52⟩, hlt2, by show hs[i].sets.length - (j + 1) < hs[i].sets.length - j; omega, Wk.re (.cons rfl lr (.cons rfl lr (.cons rfl lr (.cons rfl lr (.cons rfl lr (.cons rfl lr (.cons rfl lr (.cons rfl lr (.cons rfl lr (.cons rfl lr (.cons rfl lr (.cons rfl lr (.cons rfl lr (.cons rfl lr (.cons rfl lr (.cons rfl lr (.cons rfl lr (.cons rfl lr (.cons rfl lr (.cons rfl lr .nil)))))))))))))))))))) (Reown.refl _) (fun _ h => by first | exact h | simp [h])⟩
    obtain rfl : j = hs[i].sets.length := by (simp [SetT.css_length] at c2; omega)
    rw [List.take_length]
    refine J.exit (thenQ.x (thenQ.x (blkQ.hit (thenQ.n (J.seq (Zs (Zq rfl (QW.assign .const) (Zn (J.block ?_)))))))))
    refine J.reown (Reown.nilArrE eEm _) (J.loopK (ι := Nat × Value) [1, 2, 3, 4, 5, 6, 7, 13, 14, 15, 16, 17, 20, 21, 22, 23, 24, 25, 26, 27, 28, 29, 30, 31, 32] (fun ⟨m, v2⟩ => [(8, .c (.int .i64 (m : Int)))]) (fun ⟨m, v2⟩ oo => List.set (List.set oo 7 (.arr v2 eEm (EmT.css true (hs[i].ems.take m)))) 0 (.box b6 [.c (str hs[i].on), .c v1, .c v2])) (fun ⟨m, v2⟩ => m ≤ hs[i].ems.length) (fun ⟨m, v2⟩ => hs[i].ems.length - m) ⟨0, .slice none 0 0⟩ (Nat.zero_le _) (Wk.re (.cons rfl lr (.cons rfl lr (.cons rfl lr (.cons rfl lr (.cons rfl lr (.cons rfl lr (.cons rfl lr (.cons rfl lr (.cons rfl lr (.cons rfl lr (.cons rfl lr (.cons rfl lr (.cons rfl lr (.cons rfl lr (.cons rfl lr (.cons rfl lr (.cons rfl lr (.cons rfl lr (.cons rfl lr (.cons rfl lr (.cons rfl lr (.cons rfl lr (.cons rfl lr (.cons rfl lr (.cons rfl lr (.cons rfl lr .nil)))))))))))))))))))))))))) (Reown.refl _) (fun _ h => by first | exact h | simp [h])) ?_)
    intro ⟨m, v2⟩ hm
    refine J.conv (by (try simp only [nl, stepsO, valO, nthO, curO, mrg, AV.cellsOf, splice_zero, splice_succ, Nat.reduceAdd]); rfl) ?_
    refine J.seq (Zs (Zq rfl (QW.move (.tmp rfl)) (Zq rfl (QW.field_ptr fo57_2 (.tmp rfl) rfl) (Zq rfl (QW.load_box1 1 ty55 (.tmp rfl) rfl rfl) (Zq rfl (by first | exact QW.len_slE sl55 (.tmp rfl) wl | exact QW.len_slE sl55 (.tmp rfl) (HdT.css_length _ _) | exact QW.len_slE sl55 (.tmp rfl) (SetT.css_length _ _) | exact QW.len_slE sl55 (.tmp rfl) (EmT.css_length _ _) | exact QW.len_sl sl55 (.tmp rfl) | exact QW.len_nil sl55 (.tmp rfl)) ?_)))))
    refine Zq rfl (QW.lss (.tmp rfl) (.tmp rfl)) (Zn ?_)
    refine J.cond (.tmp rfl) (fun c3 => ?_) (fun c3 => ?_)
    · skip
      have hlt3 : m < hs[i].ems.length := by simpa [EmT.css_length] using c3
      refine Zk (J.seq (J.block (J.regionX mixed (Zf 0 [] rfl (fun _ => QW.field_ptr fo76_2 (.tmp rfl) rfl) (Zo 1 0 [61] rfl (fun _ ho_ => QW.load_box1 0 ty74 (.tmp rfl) ho_ rfl) (Zf 2 [] rfl (fun _ => QW.field_ptr fo57_2 (.tmp rfl) rfl) (Zo 3 1 [63] rfl (fun _ ho_ => QW.load_box1 1 ty55 (.tmp rfl) ho_ rfl) (Zf 4 [] rfl (fun _ => QW.move (.tmp rfl)) (Zf 5 [64, 65] rfl (fun _ => QW.index_sl sl55 ty84 rfl (.tmp rfl) (.tmp rfl) (by first | rfl | omega | (simp; done)) (by exact EmT.css_getE _ hlt3)) ?_)))))))))
      refine Zf 6 [66] rfl (fun _ => QW.field_ref fo84_0 (.tmp rfl) rfl) (Zf 7 [67] rfl (fun _ => QW.load_ref ty60 (.tmp rfl) EmT.at0 xl) (Zf 8 [68] rfl (fun _ => QW.call gofn24 (.cons (.tmp rfl) .nil) (of14_ok Xc.self (hh.ems _ (List.getElem_mem hlt3)).wh)) (Zf 9 [] rfl (fun _ => QW.field_ptr fo57_2 (.tmp rfl) rfl) (Zo 10 1 [70] rfl (fun _ ho_ => QW.load_box1 1 ty55 (.tmp rfl) ho_ rfl) (Zf 11 [] rfl (fun _ => QW.move (.tmp rfl)) (Zf 12 [71, 72] rfl (fun _ => QW.index_sl sl55 ty84 rfl (.tmp rfl) (.tmp rfl) (by first | rfl | omega | (simp; done)) (by exact EmT.css_getE _ hlt3)) ?_))))))
      refine Zf 13 [73] rfl (fun _ => QW.field_ref fo84_1 (.tmp rfl) rfl) (Zf 14 [74] rfl (fun _ => QW.load_ref1 ty9 (.tmp rfl) EmT.at4r) (Zf 15 [] rfl (fun _ => QW.field_ptr fo57_2 (.tmp rfl) rfl) (Zo 16 1 [76] rfl (fun _ ho_ => QW.load_box1 1 ty55 (.tmp rfl) ho_ rfl) (Zf 17 [] rfl (fun _ => QW.move (.tmp rfl)) (Zf 18 [77, 78] rfl (fun _ => QW.index_sl sl55 ty84 rfl (.tmp rfl) (.tmp rfl) (by first | rfl | omega | (simp; done)) (by exact EmT.css_getE _ hlt3)) ?_)))))
      refine Zf 19 [79] rfl (fun _ => QW.field_ref fo84_2 (.tmp rfl) rfl) (Zf 20 [80] rfl (fun _ => QW.load_ref ty60 (.tmp rfl) EmT.at5 xl) (Zf 21 [81] rfl (fun _ => QW.call gofn24 (.cons (.tmp rfl) .nil) (of14_ok Xc.self (hh.ems _ (List.getElem_mem hlt3)).ar)) (Zf 22 [69, 75, 82] rfl (fun _ => QW.build (idx := [0, 1, 2]) pl86 z86 rfl (.cons (.tmp rfl) (.cons (.tmp rfl) (.cons (.tmp rfl) .nil))) rfl rfl rfl (by exact fill_em rfl xl xl)) ?_)))
      refine Zf 23 [83] rfl (fun _ => QW.buildSlice (idx := [0]) (xs := [EmT.cs true hs[i].ems[m]]) (zs := [AV.agg (EmT.cs true hs[i].ems[m])]) sl74 el86 z86 rfl (.cons (.tmp rfl) .nil) rfl rfl rfl rfl rfl (by exact fillOne (EmT.cs_length _ _)) rfl (allOne (EmT.cs_length _ _)) rfl) ?_
      refine JX.one 24 [true, true, true, true, true, true, true, true, true, true, true, true, true, true, true, true, true, true, true, true, true, true, true, true] rfl (by kernel_rfl) (by kernel_rfl) rfl rfl (by kernel_rfl) rfl fun bs24_ pe_ ex_ => ?_
      refine JL.conv (by (try simp only [vlF, bxF, tkM, lvM, Flt.val, Flt.bx, nx, nl, stepsO, valO, nthO, curO, mrg, AV.cellsOf, splice_zero, splice_succ, Nat.reduceAdd]); rfl) ?_
      refine JL.append 7 sl74 el86 rfl (.tmp rfl) rfl (srcA_sl sl74 (.tmp rfl)) (by rw [EmT.css_length, List.length_take]; show (_ + 1) * 128 ≤ _; have := hh.elen; omega) rfl fun v85 => ?_
      refine JL.nil ?_
      refine thenQ.n ⟨[_], _, rfl, rfl, rfl, rfl, rfl, Reown.tkN 8 rfl, ⟨rfl, rfl⟩, trivial, ?_⟩
      refine JX.conv (S' := [24, 23, 22, 21, 20, 19, 18, 17, 16, 15, 14, 13, 12, 11, 10, 9, 8, 7, 6, 5, 4, 3, 2, 1, 0]) rfl (by (try simp only [lvM]); rfl) (by (try simp only [vlF, bxF, tkM, lvM, Flt.val, Flt.bx, nx, nl, stepsO, valO, nthO, curO, mrg, AV.cellsOf, splice_zero, splice_succ, Nat.reduceAdd]); rfl) ?_
      refine Zf 25 [] rfl (fun _ => QW.field_ptr fo76_2 (.tmp rfl) rfl) (JX.one 26 [true] rfl (by kernel_rfl) (by kernel_rfl) rfl rfl (by kernel_rfl) rfl fun bs26_ pe_ ex_ => ?_)
      refine JL.conv (by (try simp only [vlF, bxF, tkM, lvM, Flt.val, Flt.bx, nx, nl, stepsO, valO, nthO, curO, mrg, AV.cellsOf, splice_zero, splice_succ, Nat.reduceAdd]); rfl) ?_
      refine JL.isSlice 7 rfl fun hs1 => JL.store_box 0 ty74 (.tmp rfl) rfl (.tmp rfl) (by first | rfl | assumption) rfl rfl rfl rfl ?_
      refine JL.nil ?_
      refine thenQ.n ⟨[], _, rfl, rfl, rfl, rfl, rfl, Reown.tkN 8 rfl, trivial, trivial, ?_⟩
      refine JX.conv (S' := [26, 25, 24, 23, 22, 21, 20, 19, 18, 17, 16, 15, 14, 13, 12, 11, 10, 9, 8, 7, 6, 5, 4, 3, 2, 1, 0]) rfl (by (try simp only [lvM]); rfl) (by (try simp only [vlF, bxF, tkM, lvM, Flt.val, Flt.bx, nx, nl, stepsO, valO, nthO, curO, mrg, AV.cellsOf, splice_zero, splice_succ, Nat.reduceAdd]); rfl) ?_
      refine JX.fin (by kernel_rfl) (by kernel_rfl) fun bs_ => ?_
      refine QX.conv (by (try simp only [vlF, bxF, tkM, lvM, Flt.val, Flt.bx, nx, nl, stepsO, valO, nthO, curO, mrg, AV.cellsOf, splice_zero, splice_succ, Nat.reduceAdd]); rfl) ?_
      refine blkQ.n (thenQ.n (J.region_lit (Zq rfl (QW.move (.tmp rfl)) (Zq rfl (QW.add (.tmp rfl) .const (by first | exact w64n (by first | rfl | omega | (simp; done)) (by omega) | exact w64 (by omega) | rfl)) ?_))))
      refine Zq rfl (QW.assign (.tmp rfl)) (Zn ?_)
      rw [EmT.css_take hlt3]
      exact ⟨⟨m + 1, v85⟩, hlt3, by show hs[i].ems.length - (m + 1) < hs[i].ems.length - m; omega, Wk.re (.cons rfl lr (.cons rfl lr (.cons rfl lr (.cons rfl lr (.cons rfl lr (.cons rfl lr (.cons rfl lr (.cons rfl lr (.cons rfl lr (.cons rfl lr (.cons rfl lr (.cons rfl lr (.cons rfl lr (.cons rfl lr (.cons rfl lr (.cons rfl lr (.cons rfl lr (.cons rfl lr (.cons rfl lr (.cons rfl lr (.cons rfl lr (.cons rfl lr (.cons rfl lr (.cons rfl lr (.cons rfl lr (.cons rfl lr .nil)))))))))))))))))))))))))) (Reown.refl _) (fun _ h => by first | exact h | simp [h])⟩
    obtain rfl : m = hs[i].ems.length := by (simp [EmT.css_length] at c3; omega)
    rw [List.take_length]
    refine J.exit (thenQ.x (thenQ.x (blkQ.hit (thenQ.n (J.closeArr 6 rfl (by rw [SetT.css_length]; exact hh.slen) rfl (fun _ h => by cases h) ?_)))))
    refine J.closeArr (7 - 1) rfl (by rw [EmT.css_length]; exact hh.elen) rfl (fun _ h => by cases h) ?_
    refine J.region_lit (Zq rfl (QW.field_ptr fo38_1 (.tmp rfl) rfl) (Zq rfl (QW.load_box1 2 ty36 (.tmp rfl) rfl rfl) (Zq rfl ((QW.load_box 0 ty76 (.tmp rfl) rfl rfl rfl).conv (show AV.agg _ = AV.agg [AV.c (str hs[i].on), AV.c v1, AV.c v2] from rfl)) (Zq rfl (QW.buildSlice (xs := [HdT.cs true hs[i]]) (idx := [0]) sl36 el76 z76 rfl (.cons (Ev.le (y := .agg [AV.c (str hs[i].on), AV.c v1, AV.c v2]) (z := .agg (HdT.cs true hs[i])) (.tmp rfl) (hd_le (List.mem_cons_of_mem _ List.mem_cons_self) List.mem_cons_self)) .nil) rfl rfl rfl rfl rfl rfl rfl rfl rfl) (JL.append 5 sl36 el76 rfl (.tmp rfl) rfl (srcA_sl sl36 (.tmp rfl)) (by rw [HdT.css_length, List.length_take]; show (_ + 1) * 64 ≤ _; omega) rfl fun v91 => ?_)))))
    refine Zq rfl (QW.field_ptr fo38_1 (.tmp rfl) rfl) (JL.isSlice 5 rfl fun hs1 => JL.store_box 2 ty36 (.tmp rfl) rfl (.tmp rfl) (by first | rfl | assumption) rfl rfl rfl rfl ?_)
    refine JL.nil (blkQ.n (thenQ.n (J.region_lit (Zq rfl (QW.move (.tmp rfl)) (Zq rfl (QW.add (.tmp rfl) .const (by first | exact w64n (by first | rfl | omega | (simp; done)) (by omega) | exact w64 (by omega) | rfl)) ?_)))))
    refine Zq rfl (QW.assign (.tmp rfl)) (Zn ?_)
    rw [HdT.css_take hlt]
    exact ⟨⟨i + 1, v91⟩, hlt, by show hs.length - (i + 1) < hs.length - i; omega, Wk.re (.cons rfl lr (.cons rfl lr (.cons rfl lr (.cons rfl lr .nil)))) (Reown.dropN 2 _ rfl) (fun _ h => by first | exact h | simp [h])⟩
  obtain rfl : i = hs.length := by (simp [HdT.css_length] at c1; omega)
  rw [List.take_length]
  refine J.exit (thenQ.x (thenQ.x (blkQ.hit (thenQ.n (J.seq (J.closeArr 3 rfl (by rw [HdT.css_length]; exact hlen) rfl (fun _ h => by cases h) ?_))))))
  refine J.region_lit (Zq rfl (by first | exact QW.load_box 0 ty38 (.tmp rfl) rfl rfl rfl | exact QW.load_box 0 ty38 (.tmp rfl) rfl (take_at rfl rfl) rfl) ?_)
  first | refine JL.store_boxF 1 ty38 (.tmp rfl) rfl (.tmp rfl) (by first | rfl | assumption) rfl rfl rfl ?_ | refine JL.store_boxF 1 ty38 (.tmp rfl) rfl (.tmp rfl) (by first | rfl | assumption) rfl rfl rfl ?_ | refine JL.store_boxF 1 ty38 (.tmp rfl) rfl (.tmp rfl) (by first | rfl | assumption) rfl rfl rfl ?_ | refine JL.store_boxF 1 ty38 (.tmp rfl) rfl (.tmp rfl) (by first | rfl | assumption) rfl rfl rfl ?_ | refine JL.store_box 1 ty38 (.tmp rfl) rfl (.tmp rfl) (by first | rfl | assumption) rfl rfl rfl rfl ?_ | refine JL.store_box 1 ty38 (.tmp rfl) rfl (.tmp rfl) (by first | rfl | assumption) rfl rfl rfl rfl ?_
  exact Zn (J.ret (Zr [.k, .k, .k] (RetEv.one rfl (by first | exact REv.cell 1 ty38 rfl rfl rfl rfl (.aggL (.cons lr (.cons lr (.cons lr (.cons lr (.cons lr (.cons (.fact (by simp) lr) .nil))))))) | exact REv.cell 1 ty38 rfl rfl (take_at rfl rfl) rfl (.aggL (.cons lr (.cons lr (.cons lr (.cons lr (.cons lr (.cons (.fact (by simp) lr) .nil))))))))) rfl ⟨rfl, rfl⟩))
end Go.Proofs.YtmccnmahegbmpaaGreat.J

/- Walks: the page: where an event's handler is; may a program be? -/
namespace Go.Proofs.YtmccnmahegbmpaaGreat.J
open Go Go.RowKit
set_option maxRecDepth 10000
set_option maxHeartbeats 4000000
theorem rhandles_ok {fr : Bool} {p : PgT} (hw : p.wf) (s : Str) : Fn Tryz.prog 17 [.agg (p.cs fr), .c (str s)] (.c (.int .i64 (p.at s))) := by
  obtain ⟨⟨k, bt, t, ks, is⟩, hs⟩ := p
  obtain ⟨-, hlen, -⟩ := hw
  simp only at hlen
  have hlen2 : hs.length ≤ 9223372036854775805 := by unfold reach at hlen; omega
  refine AC.of_J Tryz.func17 rfl Tryz.ntmps17 rfl fun w0 A0 => ?_
  refine Zs (JL.box_agg (.tmp rfl) rfl fun b2 => Zq rfl (QW.assign .const) (Zn (J.seq (Zs (Zq rfl (QW.assign .const) (Zn (J.block (J.loopK (ι := Nat) [1, 2] (fun j => [(5, .c (.int .i64 (j : Int)))]) (fun _ oo => oo) (fun j => j ≤ hs.length ∧ hIdx hs s 0 = hIdx (hs.drop j) s (j : Int)) (fun j => hs.length - j) 0 (⟨Nat.zero_le _, rfl⟩) (Wk.re (.cons rfl lr (.cons rfl lr (.cons rfl lr .nil))) (Reown.refl _) (fun _ h => by first | exact h | simp [h])) ?_))))))))
  intro j ⟨hj, hi⟩
  refine J.conv (by (try simp only [nl, stepsO, valO, nthO, curO, mrg, AV.cellsOf, splice_zero, splice_succ, Nat.reduceAdd]); rfl) ?_
  refine J.seq (Zs (Zq rfl (QW.move (.tmp rfl)) (Zq rfl (QW.field_ptr fo29_1 (.tmp rfl) rfl) (Zq rfl (QW.load_box1 0 ty27 (.tmp rfl) rfl rfl) (Zq rfl (by first | exact QW.len_slE sl27 (.tmp rfl) wl | exact QW.len_slE sl27 (.tmp rfl) (EX.css_length _ _) | exact QW.len_slE sl27 (.tmp rfl) (SetT.css_length _ _) | exact QW.len_slE sl27 (.tmp rfl) (EmT.css_length _ _) | exact QW.len_slE sl27 (.tmp rfl) (HdT.css_length _ _) | exact QW.len_sl sl27 (.tmp rfl) | exact QW.len_nil sl27 (.tmp rfl)) ?_)))))
  refine Zq rfl (QW.lss (.tmp rfl) (.tmp rfl)) (Zn ?_)
  refine J.cond (.tmp rfl) (fun c1 => ?_) (fun c1 => ?_)
  · skip
    have hlt : j < hs.length := by simpa [HdT.css_length] using c1
    refine Zk (J.seq (J.block (Zs (Zq rfl (QW.field_ptr fo29_1 (.tmp rfl) rfl) (Zq rfl (QW.load_box1 0 ty27 (.tmp rfl) rfl rfl) (Zq rfl (QW.move (.tmp rfl)) (Zq rfl (QW.index_sl sl27 ty57 rfl (.tmp rfl) (.tmp rfl) (by first | rfl | omega | (simp; done)) (by exact HdT.css_getE _ hlt)) ?_)))))))
    refine Zq rfl (QW.field_ref fo57_0 (.tmp rfl) rfl) (Zq rfl (QW.load_ref1 ty9 (.tmp rfl) rfl) (Zq rfl (QW.move (.tmp rfl)) (Zq rfl (QW.eql_s (.tmp rfl) (.tmp rfl)) (Zn ?_))))
    refine J.cond (.tmp rfl) (fun c2 => ?_) (fun c2 => ?_)
    · skip
      have he : hs[j].on = s := by simpa using c2
      exact Zs (Zq rfl (QW.move (.tmp rfl)) (Zq rfl (QW.assign (.tmp rfl)) (Zn (J.ret (blkQ.r (thenQ.r (thenQ.r (blkQ.r (thenQ.r (Zr [.k] (RetEv.one rfl (REv.tmp rfl lr)) rfl ⟨by rw [PgT.at, hi, hIdx_drop hlt, if_pos he], rfl⟩))))))))))
    have hne : ¬ hs[j].on = s := by simpa using c2
    refine J.skip (blkQ.n (thenQ.n (J.region_lit (Zq rfl (QW.move (.tmp rfl)) (Zq rfl (QW.add (.tmp rfl) .const (by first | exact w64n (by first | rfl | omega | (simp; done)) (by omega) | exact w64 (by omega) | rfl)) ?_)))))
    refine Zq rfl (QW.assign (.tmp rfl)) (Zn ?_)
    exact ⟨j + 1, ⟨hlt, by rw [hi, hIdx_drop hlt, if_neg hne]; simp⟩, by omega, Wk.re (.cons rfl lr (.cons rfl lr (.cons rfl lr .nil))) (Reown.refl _) (fun _ h => by first | exact h | simp [h])⟩
  have hge : hs.length ≤ j := by simpa [HdT.css_length] using c1
  exact J.exit (thenQ.x (thenQ.x (blkQ.hit (thenQ.n (Zs (Zq rfl (QW.assign .const) (Zn (J.ret (Zr [.k] (RetEv.one rfl (REv.tmp rfl lr)) rfl ⟨by rw [PgT.at, hi, List.drop_of_length_le hge]; rfl, rfl⟩)))))))))
end Go.Proofs.YtmccnmahegbmpaaGreat.J

/- Walks: the page's small program; the example. -/
namespace Go.Proofs.YtmccnmahegbmpaaGreat.J
open Go Go.RowKit
set_option maxRecDepth 10000
set_option maxHeartbeats 4000000
def aN : List AV := [.c (.int .i64 8), .c (.int .u64 0), .c (str [110]), .sl true true et60 [(EX.mk 5 0 [] []).raw (.slice none 0 0)]]
def a1 : List AV := [.c (.int .i64 3), .c (.int .u64 4607182418800017408), .c (str []), .c (.slice none 0 0)]
def aAdd : List AV := [.c (.int .i64 11), .c (.int .u64 0), .c (str []), .sl true true et60 [aN, a1]]
def aLes : List AV := [.c (.int .i64 17), .c (.int .u64 0), .c (str []), .sl true true et60 [a1, aN]]
def aHd : List AV := [.c (str [117, 112]), .sl true true et62 [.c (str [110]) :: aAdd], .sl true true et84 [aLes ++ .c (str [116, 101, 108, 108]) :: aN]]
def aV : List AV := [.c (.int .i64 5), .c (.int .u64 0), .c (str []), .sl true true et9 [[.c (str [110])]], .sl true true et26 [[.c (.int .i64 2), .c (.int .u64 0), .c (str []), .c (.slice none 0 0), .c (.slice none 0 0)]]]
def aP : List AV := aV ++ [.sl true true et57 [aHd]]
theorem aN_le {F : List (Value × AV)} : LeL F aN (dN.cs false) := .cons (.refl _) (.cons (.refl _) (.cons (.refl _) (.cons (.slL (fun h => by cases h) rfl (EX.css_sz false [.mk 5 0 [] []]) (.cons (.refl _) (.cons (.refl _) (.cons (.refl _) (.cons (.nil false false _) .nil))))) .nil)))
theorem a1_le {F : List (Value × AV)} : LeL F a1 (d1.cs false) := .cons (.refl _) (.cons (.refl _) (.cons (.refl _) (.cons (.nil false false _) .nil)))
theorem aAdd_le {F : List (Value × AV)} : LeL F aAdd (dAdd.cs false) := .cons (.refl _) (.cons (.refl _) (.cons (.refl _) (.cons (.slL (fun h => by cases h) rfl (EX.css_sz false [dN, d1]) (LeL.append aN_le (LeL.append a1_le .nil))) .nil)))
theorem aLes_le {F : List (Value × AV)} : LeL F aLes (dLes.cs false) := .cons (.refl _) (.cons (.refl _) (.cons (.refl _) (.cons (.slL (fun h => by cases h) rfl (EX.css_sz false [d1, dN]) (LeL.append a1_le (LeL.append aN_le .nil))) .nil)))
theorem aHd_le {F : List (Value × AV)} : LeL F aHd (dHd.cs false) := .cons (.refl _) (.cons (.slL (fun h => by cases h) rfl (SetT.css_sz false dHd.sets) (LeL.append (.cons (.refl _) aAdd_le) .nil)) (.cons (.slL (fun h => by cases h) rfl (EmT.css_sz false dHd.ems) (LeL.append (LeL.append aLes_le (.cons (.refl _) aN_le)) .nil)) .nil))
theorem aP_le {F : List (Value × AV)} : Le F (.agg aP) (.agg (dP.cs false)) := .aggL (.cons (.refl _) (.cons (.refl _) (.cons (.refl _) (.cons (.slL (fun h => by cases h) rfl (keysAV_sz [[110]]) (.cons (.refl _) .nil)) (.cons (.slL (fun h => by cases h) rfl (V.css_sz false [.mk 2 0 [] [] []]) (.cons (.refl _) (.cons (.refl _) (.cons (.refl _) (.cons (.nil false false _) (.cons (.nil false false _) .nil)))))) (.cons (.slL (fun h => by cases h) rfl (HdT.css_sz false [dHd]) (LeL.append aHd_le .nil)) .nil))))))
theorem demo_ok : Fn Tryz.prog 19 [] (.agg (dP.cs false)) := by
  refine AC.of_J Tryz.func19 rfl Tryz.ntmps19 rfl fun w0 A0 => ?_
  refine Zs (JL.alloc z29 rfl rfl fun b0 => Zn (Zs (Zq rfl (QW.build (idx := [0]) pl60 z60 rfl (.cons .const .nil) rfl rfl rfl rfl) (Zq rfl (QW.buildSlice (idx := [0]) (xs := [(EX.mk 5 0 [] []).raw (.slice none 0 0)]) sl58 el60 z60 rfl (.cons (.tmp rfl) .nil) rfl rfl rfl rfl rfl rfl rfl rfl rfl) (Zq rfl (QW.build (idx := [0, 2, 3]) pl60 z60 rfl (.cons .const (.cons .const (.cons (.tmp rfl) .nil))) rfl rfl rfl rfl) (JL.alloc z60 rfl rfl fun b1 => ?_))))))
  first | refine JL.store_boxF 0 ty60 (.tmp rfl) rfl (.tmp rfl) (by first | rfl | assumption) rfl rfl rfl ?_ | refine JL.store_boxF 0 ty60 (.tmp rfl) rfl (.tmp rfl) (by first | rfl | assumption) rfl rfl rfl ?_ | refine JL.store_boxF 0 ty60 (.tmp rfl) rfl (.tmp rfl) (by first | rfl | assumption) rfl rfl rfl ?_ | refine JL.store_boxF 0 ty60 (.tmp rfl) rfl (.tmp rfl) (by first | rfl | assumption) rfl rfl rfl ?_ | refine JL.store_box 0 ty60 (.tmp rfl) rfl (.tmp rfl) (by first | rfl | assumption) rfl rfl rfl rfl ?_ | refine JL.store_box 0 ty60 (.tmp rfl) rfl (.tmp rfl) (by first | rfl | assumption) rfl rfl rfl rfl ?_
  refine Zn (Zs (Zq rfl (QW.build (idx := [0, 1]) pl60 z60 rfl (.cons .const (.cons .const .nil)) rfl rfl rfl rfl) (JL.alloc z60 rfl rfl fun b2 => ?_)))
  first | refine JL.store_boxF 0 ty60 (.tmp rfl) rfl (.tmp rfl) (by first | rfl | assumption) rfl rfl rfl ?_ | refine JL.store_boxF 0 ty60 (.tmp rfl) rfl (.tmp rfl) (by first | rfl | assumption) rfl rfl rfl ?_ | refine JL.store_boxF 0 ty60 (.tmp rfl) rfl (.tmp rfl) (by first | rfl | assumption) rfl rfl rfl ?_ | refine JL.store_boxF 0 ty60 (.tmp rfl) rfl (.tmp rfl) (by first | rfl | assumption) rfl rfl rfl ?_ | refine JL.store_box 0 ty60 (.tmp rfl) rfl (.tmp rfl) (by first | rfl | assumption) rfl rfl rfl rfl ?_ | refine JL.store_box 0 ty60 (.tmp rfl) rfl (.tmp rfl) (by first | rfl | assumption) rfl rfl rfl rfl ?_
  refine Zn (Zs (Zq rfl (by first | exact QW.load_box 1 ty60 (.tmp rfl) rfl rfl rfl | exact QW.load_box 1 ty60 (.tmp rfl) rfl (take_at rfl rfl) rfl) ?_))
  refine Zq rfl (by first | exact QW.load_box 0 ty60 (.tmp rfl) rfl rfl rfl | exact QW.load_box 0 ty60 (.tmp rfl) rfl (take_at rfl rfl) rfl) ?_
  refine Zq rfl (QW.buildSlice (idx := [0, 1]) (xs := [aN, a1]) sl58 el60 z60 rfl (.cons (.tmp rfl) (.cons (.tmp rfl) .nil)) rfl rfl rfl rfl rfl rfl rfl rfl rfl) (Zq rfl (QW.build (idx := [0, 3]) pl60 z60 rfl (.cons .const (.cons (.tmp rfl) .nil)) rfl rfl rfl rfl) (Zq rfl (QW.build (idx := [0, 1]) pl62 z62 rfl (.cons .const (.cons (.tmp rfl) .nil)) rfl rfl rfl rfl) (Zq rfl (QW.buildSlice (idx := [0]) (xs := [.c (str [110]) :: aAdd]) sl54 el62 z62 rfl (.cons (.tmp rfl) .nil) rfl rfl rfl rfl rfl rfl rfl rfl rfl) (Zq rfl (by first | exact QW.load_box 0 ty60 (.tmp rfl) rfl rfl rfl | exact QW.load_box 0 ty60 (.tmp rfl) rfl (take_at rfl rfl) rfl) ?_))))
  refine Zq rfl (by first | exact QW.load_box 1 ty60 (.tmp rfl) rfl rfl rfl | exact QW.load_box 1 ty60 (.tmp rfl) rfl (take_at rfl rfl) rfl) ?_
  refine Zq rfl (QW.buildSlice (idx := [0, 1]) (xs := [a1, aN]) sl58 el60 z60 rfl (.cons (.tmp rfl) (.cons (.tmp rfl) .nil)) rfl rfl rfl rfl rfl rfl rfl rfl rfl) (Zq rfl (QW.build (idx := [0, 3]) pl60 z60 rfl (.cons .const (.cons (.tmp rfl) .nil)) rfl rfl rfl rfl) (Zq rfl (by first | exact QW.load_box 1 ty60 (.tmp rfl) rfl rfl rfl | exact QW.load_box 1 ty60 (.tmp rfl) rfl (take_at rfl rfl) rfl) ?_))
  refine Zq rfl (QW.build (idx := [0, 1, 2]) pl84 z84 rfl (.cons (.tmp rfl) (.cons .const (.cons (.tmp rfl) .nil))) rfl rfl rfl rfl) (Zq rfl (QW.buildSlice (idx := [0]) (xs := [aLes ++ .c (str [116, 101, 108, 108]) :: aN]) sl55 el84 z84 rfl (.cons (.tmp rfl) .nil) rfl rfl rfl rfl rfl rfl rfl rfl rfl) (Zq rfl (QW.build (idx := [0, 1, 2]) pl57 z57 rfl (.cons .const (.cons (.tmp rfl) (.cons (.tmp rfl) .nil))) rfl rfl rfl rfl) (JL.alloc z57 rfl rfl fun b3 => ?_)))
  first | refine JL.store_boxF 0 ty57 (.tmp rfl) rfl (.tmp rfl) (by first | rfl | assumption) rfl rfl rfl ?_ | refine JL.store_boxF 0 ty57 (.tmp rfl) rfl (.tmp rfl) (by first | rfl | assumption) rfl rfl rfl ?_ | refine JL.store_boxF 0 ty57 (.tmp rfl) rfl (.tmp rfl) (by first | rfl | assumption) rfl rfl rfl ?_ | refine JL.store_boxF 0 ty57 (.tmp rfl) rfl (.tmp rfl) (by first | rfl | assumption) rfl rfl rfl ?_ | refine JL.store_box 0 ty57 (.tmp rfl) rfl (.tmp rfl) (by first | rfl | assumption) rfl rfl rfl rfl ?_ | refine JL.store_box 0 ty57 (.tmp rfl) rfl (.tmp rfl) (by first | rfl | assumption) rfl rfl rfl rfl ?_
  refine Zn (Zs (Zq rfl (QW.buildSlice (idx := [0]) (xs := [[.c (str [110])]]) sl23 el9 z9 rfl (.cons .const .nil) rfl rfl rfl rfl rfl rfl rfl rfl rfl) (Zq rfl (QW.build (idx := [0]) pl26 z26 rfl (.cons .const .nil) rfl rfl rfl rfl) (Zq rfl (QW.buildSlice (idx := [0]) (xs := [[.c (.int .i64 2), .c (.int .u64 0), .c (str []), .c (.slice none 0 0), .c (.slice none 0 0)]]) sl24 el26 z26 rfl (.cons (.tmp rfl) .nil) rfl rfl rfl rfl rfl rfl rfl rfl rfl) (Zq rfl (QW.build (idx := [0, 3, 4]) pl26 z26 rfl (.cons .const (.cons (.tmp rfl) (.cons (.tmp rfl) .nil))) rfl rfl rfl rfl) (Zq rfl (by first | exact QW.load_box 0 ty57 (.tmp rfl) rfl rfl rfl | exact QW.load_box 0 ty57 (.tmp rfl) rfl (take_at rfl rfl) rfl) ?_))))))
  refine Zq rfl (QW.buildSlice (idx := [0]) (xs := [aHd]) sl27 el57 z57 rfl (.cons (.tmp rfl) .nil) rfl rfl rfl rfl rfl rfl rfl rfl rfl) (Zq rfl (QW.build (idx := [0, 1]) pl29 z29 rfl (.cons (.tmp rfl) (.cons (.tmp rfl) .nil)) rfl rfl rfl rfl) ?_)
  first | refine JL.store_boxF 3 ty29 (.tmp rfl) rfl (.tmp rfl) (by first | rfl | assumption) rfl rfl rfl ?_ | refine JL.store_box 3 ty29 (.tmp rfl) rfl (.tmp rfl) (by first | rfl | assumption) rfl rfl rfl rfl ?_
  exact Zn (J.ret (Zr [.k, .k, .k, .k] (RetEv.one rfl (REv.cell 3 ty29 rfl rfl rfl rfl (aP_le))) rfl ⟨rfl, rfl⟩))
def upA : List AV := [.c (str [117, 112]), .c (.int .i64 0), .c (.int .u64 0), .c (str []), .c (.slice none 0 0), .c (.slice none 0 0)]
theorem up_le {F : List (Value × AV)} : Le F (.sl true true et47 [upA, upA]) (.sl false false eEv (EvT.css false [dUp, dUp])) :=
  .slL (fun h => by cases h) rfl (EvT.css_sz false [dUp, dUp]) (.cons (.refl _) (.cons (.refl _) (.cons (.refl _) (.cons (.refl _) (.cons (.nil false false _) (.cons (.nil false false _) (.cons (.refl _) (.cons (.refl _) (.cons (.refl _) (.cons (.refl _) (.cons (.nil false false _) (.cons (.nil false false _) .nil))))))))))))
theorem up_wf : EvT.wfs [dUp, dUp] := ⟨by decide, fun e he => by simp at he; subst he; exact ⟨by show 2 ≤ reach; decide, V.wf_nil⟩⟩
theorem dP_wf : dP.wf := by
  have hx5 : (EX.mk 5 0 [] []).wf := .mk (by decide) (by decide) (by decide) (by decide) (fun _ h => by cases h)
  have hN : dN.wf := .mk (by decide) (by decide) (by decide) (by decide) (fun x h => by rw [List.mem_singleton.1 h]; exact hx5)
  have h1 : d1.wf := .mk (by decide) (by decide) (by decide) (by decide) (fun _ h => by cases h)
  have hA : dAdd.wf := .mk (by decide) (by decide) (by decide) (by decide) (fun x h => by simp at h; rcases h with rfl | rfl; exact hN; exact h1)
  have hL : dLes.wf := .mk (by decide) (by decide) (by decide) (by decide) (fun x h => by simp at h; rcases h with rfl | rfl; exact h1; exact hN)
  have hv : (V.mk 2 0 [] [] []).wf := .mk (by decide) (by decide) (by decide) (by decide) (by decide) (fun _ h => by cases h) (fun _ h => by cases h)
  refine ⟨.mk (by decide) (by decide) (by decide) (by decide) (by decide) (fun x h => by rw [List.mem_singleton.1 h]; decide) (fun x h => by rw [List.mem_singleton.1 h]; exact hv), by decide, fun x h => ?_⟩
  rw [List.mem_singleton.1 h]
  exact ⟨by decide, by decide, fun x h => by rw [List.mem_singleton.1 h]; exact ⟨by decide, hA⟩, by decide, fun x h => by rw [List.mem_singleton.1 h]; exact ⟨hL, by decide, hN⟩⟩
theorem num16_ok (n : Int) : Fn Tryz.prog 11 [.c (.int .i64 n)] (.c (.int .i64 n)) := by
  refine AC.of_J Tryz.func11 rfl Tryz.ntmps11 rfl fun w0 A0 => ?_
  exact Zs (Zq rfl (QW.assign .const) (Zn (Zs (Zq rfl (QW.move (.tmp rfl)) (Zq rfl (QW.assign (.tmp rfl)) (Zn (J.ret (Zr [] (RetEv.one rfl (REv.tmp rfl lr)) rfl ⟨rfl, rfl⟩))))))))
theorem foldD {xs : List AV} (h : Fn Tryz.prog 8 xs (foldAV (foldT dP [dUp, dUp]))) : Fn Tryz.prog 8 xs (foldAV (dSt 4611686018427387904, [⟨[116, 101, 108, 108], .nu 4611686018427387904⟩], 2, 0)) := dfold ▸ h
theorem alive16_ok : Fn Tryz.prog 7 [] (.c (.bool true)) := by
  refine AC.of_J Tryz.func7 rfl Tryz.ntmps7 rfl fun w0 A0 => ?_
  refine Zs (Zq rfl (QW.assign .const) (Zn (Zs (Zq rfl (QW.call gofn19 .nil (demo_ok)) (Zq rfl (QW.call gofn9 (.cons (.tmp rfl) .nil) (of16_ok (p := dP) dP_wf)) (Zq rfl (QW.build (idx := [0]) pl47 z47 rfl (.cons .const .nil) rfl rfl rfl rfl) (Zq rfl (QW.build (idx := [0]) pl47 z47 rfl (.cons .const .nil) rfl rfl rfl rfl) (Zq rfl (QW.buildSlice (idx := [0, 1]) (xs := [upA, upA]) sl30 el47 z47 rfl (.cons (.tmp rfl) (.cons (.tmp rfl) .nil)) rfl rfl rfl rfl rfl rfl rfl rfl rfl) (Zq rfl (QW.call gofn8 (.cons (.tmp rfl) (.cons (Ev.le (.tmp rfl) (up_le)) .nil)) ((foldD (fold_ok (fr := true) (fr2 := false) (c := false) dP_wf up_wf (by decide))))) ?_)))))))))
  refine Zq rfl (QW.move (.tmp rfl)) (Zq rfl (QW.extract (.tmp rfl) rfl) (Zq rfl (QW.extract (.tmp rfl) rfl) (Zq rfl (QW.extract (.tmp rfl) rfl) (Zq rfl (QW.extract (.tmp rfl) rfl) (JL.alloc z26 rfl rfl fun b1 => ?_)))))
  first | refine JL.store_boxF 0 ty26 (.tmp rfl) rfl (.tmp rfl) (by first | rfl | assumption) rfl rfl rfl ?_ | refine JL.store_boxF 0 ty26 (.tmp rfl) rfl (.tmp rfl) (by first | rfl | assumption) rfl vl rfl ?_ | refine JL.store_boxF 0 ty26 (.tmp rfl) rfl (.tmp rfl) (by first | rfl | assumption) vl rfl rfl ?_ | refine JL.store_boxF 0 ty26 (.tmp rfl) rfl (.tmp rfl) (by first | rfl | assumption) vl vl rfl ?_ | refine JL.store_box 0 ty26 (.tmp rfl) rfl (.tmp rfl) (by first | rfl | assumption) rfl rfl rfl rfl ?_ | refine JL.store_box 0 ty26 (.tmp rfl) rfl (.tmp rfl) (by first | rfl | assumption) vl rfl rfl rfl ?_
  refine Zq rfl (QW.assign (.tmp rfl)) (Zq rfl (QW.assign (.tmp rfl)) (Zq rfl (QW.assign (.tmp rfl)) (Zn (Zs (Zq rfl (QW.move (.tmp rfl)) (Zq rfl (QW.call gofn11 (.cons (.tmp rfl) .nil) (num16_ok _)) (Zq rfl (QW.eql (.tmp rfl) .const) (Zq rfl (QW.move (.tmp rfl)) (Zg rfl (fun hg => (QW.move (.tmp rfl))) ?_)))))))))
  refine Zg rfl (fun hg => (QW.eql (.when rfl hg) .const)) (Zq rfl (QW.pick_and (.tmp rfl) (.tmp rfl)) (Zq rfl (QW.move (.tmp rfl)) (Zg rfl (fun hg => (QW.field_ptr fo26_4 (.tmp rfl) rfl)) (Zg rfl (fun hg => (QW.load_box1 0 ty24 (.when rfl hg) rfl rfl)) (Zg rfl (fun hg => (by first | exact QW.len_slE sl24 (.when rfl hg) wl | exact QW.len_slE sl24 (.when rfl hg) (EvT.css_length _ _) | exact QW.len_sl sl24 (.when rfl hg) | exact QW.len_nil sl24 (.when rfl hg))) ?_)))))
  refine Zg rfl (fun hg => (QW.eql (.when rfl hg) .const)) (Zq rfl (QW.pick_and (.tmp rfl) (.tmp rfl)) (Zq rfl (QW.move (.tmp rfl)) (Zg rfl (fun hg => (QW.field_ptr fo26_4 (.tmp rfl) rfl)) (Zg rfl (fun hg => (QW.load_box1 0 ty24 (.when rfl hg) rfl rfl)) (Zg rfl (fun hg => (QW.index_sl sl24 ty26 rfl (.when rfl hg) .const (by first | rfl | omega | (simp; done)) (by rfl))) ?_)))))
  refine Zg rfl (fun hg => (QW.field_ref fo26_1 (.when rfl hg) rfl)) (Zg rfl (fun hg => (QW.load_ref1 ty22 (.when rfl hg) rfl)) (Zg rfl (fun hg => (QW.eql (.when rfl hg) .const)) (Zq rfl (QW.pick_and (.tmp rfl) (.tmp rfl)) (Zq rfl (QW.move (.tmp rfl)) (Zg rfl (fun hg => (QW.move (.tmp rfl))) (Zg rfl (fun hg => (by first | exact QW.len_slE sl32 (.when rfl hg) wl | exact QW.len_slE sl32 (.when rfl hg) (EvT.css_length _ _) | exact QW.len_sl sl32 (.when rfl hg) | exact QW.len_nil sl32 (.when rfl hg))) ?_))))))
  refine Zg rfl (fun hg => (QW.eql (.when rfl hg) .const)) (Zq rfl (QW.pick_and (.tmp rfl) (.tmp rfl)) (Zq rfl (QW.move (.tmp rfl)) (Zg rfl (fun hg => (QW.move (.tmp rfl))) (Zg rfl (fun hg => (QW.index_sl sl32 ty51 rfl (.when rfl hg) .const (by first | rfl | omega | (simp; done)) (by rfl))) ?_))))
  exact Zg rfl (fun hg => (QW.field_ref fo51_0 (.when rfl hg) rfl)) (Zg rfl (fun hg => (QW.load_ref1 ty9 (.when rfl hg) rfl)) (Zg rfl (fun hg => (QW.eql_s (.when rfl hg) .const)) (Zq rfl (QW.pick_and (.tmp rfl) (.tmp rfl)) (Zq rfl (QW.assign (.tmp rfl)) (Zn (J.ret (Zr [.k] (RetEv.one rfl (REv.tmp rfl lr)) rfl ⟨ret_b (by first | decide | simp | (simp [dSt]; done) | (trace_state; rfl)), rfl⟩)))))))
end Go.Proofs.YtmccnmahegbmpaaGreat.J

/- ReduceNone. -/
namespace Go.Proofs.YtmccnmahegbmpaaGreat.J
open Go Go.RowKit
set_option maxRecDepth 10000
set_option maxHeartbeats 4000000
end Go.Proofs.YtmccnmahegbmpaaGreat.J

/- ReduceMay. -/
namespace Go.Proofs.YtmccnmahegbmpaaGreat.J
open Go Go.RowKit
set_option maxRecDepth 10000
set_option maxHeartbeats 4000000
end Go.Proofs.YtmccnmahegbmpaaGreat.J

/- What a handler does not set stays. -/
namespace Go.Proofs.YtmccnmahegbmpaaGreat.J
open Go Go.RowKit
theorem rec_getv {a : V} (ha : a.good) (hk : a.kind = 5) {t : Str} {j : Nat} (hj : j < a.keys.length) (hj2 : j < a.items.length) (he : a.keys[j] = t) : a.getv [⟨true, t, 0⟩] = (a.items[j], 0) := by
  have hl := low_eq (ha.fine.sorted hk) hj he
  have hf : a.fnd ⟨true, t, 0⟩ = (j, 0) := by unfold V.fnd; simp [hk, hl, hj, he]
  rw [V.getv, if_neg (by simp [ha.err]), V.walk, hf, if_neg (by simp), V.walk, V.kid_eq hj2]
theorem sameP_keys {k t : Str} : sameP [⟨true, k, 0⟩] [⟨true, t, 0⟩] = decide (k = t) := by
  by_cases h : k = t
  · subst h; simp [sameP, sameSt]
  · simp [sameP, sameSt, h]
theorem puts_get {k : Str} : ∀ {l : List SetT} {vs : List V} {v w x : V}, putsE v (l.zip vs) = .ok w → v.getv [⟨true, k, 0⟩] = (x, 0) → ∃ y, w.getv [⟨true, k, 0⟩] = (y, 0) ∧ ((∀ s ∈ l, ¬ s.key = k) → y = x)
  | [], vs, v, w, x, h, hg => by cases vs <;> (simp [putsE] at h; exact ⟨x, h ▸ hg, fun _ => rfl⟩)
  | s :: l, [], v, w, x, h, hg => by simp [putsE] at h; exact ⟨x, h ▸ hg, fun _ => rfl⟩
  | s :: l, z :: vs, v, w, x, h, hg => by
    rw [List.zip_cons_cons, putsE] at h
    split at h
    · rename_i he
      by_cases hk : s.key = k
      · have h1 := V.sets_got (v := v) (x := z) (p := [⟨true, s.key, 0⟩]) he
        rw [hk] at h1 h he
        obtain ⟨y, h2, -⟩ := puts_get h h1
        exact ⟨y, h2, fun hn => absurd hk (hn s (by simp))⟩
      · have h1 := V.sets_kept (v := v) (x := z) (p := [⟨true, s.key, 0⟩]) (o := [⟨true, k, 0⟩]) he (by rw [sameP_keys]; simp [hk]) (by rw [hg])
        rw [hg] at h1
        obtain ⟨y, h2, h3⟩ := puts_get h h1
        exact ⟨y, h2, fun hn => h3 fun t ht => hn t (by simp [ht])⟩
    · cases h
theorem run_get {h : HdT} {st arg v x : V} {m : List EvT} {k : Str} (hr : h.runE st arg = .ok (v, m)) (hg : st.getv [⟨true, k, 0⟩] = (x, 0)) : ∃ y, v.getv [⟨true, k, 0⟩] = (y, 0) ∧ ((∀ s ∈ h.sets, ¬ s.key = k) → y = x) := by
  unfold HdT.runE at hr
  split at hr
  · cases hr
  · split at hr
    · cases hr
    · rename_i w hp
      split at hr
      · cases hr
      · cases hr; exact puts_get hp hg
theorem stepT_others {p : PgT} {st v : V} {e : EvT} {l : List EvT} (hw : p.wf) (hst : st.wf) (he : e.wf) (h : stepT p st e = (v, l, 0)) : ∃ m, ∃ hm : m < p.hs.length, p.at e.name = (m : Int) ∧ st.good ∧ st.kind = 5 ∧ v.good ∧
    ∀ (k : Str) (x : V), st.getv [⟨true, k, 0⟩] = (x, 0) → ∃ y, v.getv [⟨true, k, 0⟩] = (y, 0) ∧ ((∀ s ∈ (p.hs[m]).sets, ¬ s.key = k) → y = x) := by
  by_cases hp : p.err = 0
  · have h1 : outE (stepE p st e) = (v, l, 0) := (if_neg (fun h => h hp) : stepT p st e = _).symm.trans h
    have hr := outE_yes (step_nz hp) h1
    obtain ⟨g0, g1, g2, g3, g4⟩ := step_good hw hp hst he hr
    by_cases hz : fstE [st.err, if st.kind = 5 then 0 else 81, nameE e.name, e.arg.err] = 0
    · rcases at_in p e.name with h2 | ⟨m, hm, h2⟩
      · rw [step_2 hz (by omega)] at hr; cases hr
      · rw [step_3 hz hm h2] at hr
        exact ⟨m, hm, h2, ⟨hst, fstE_all hz _ (by simp)⟩, g0, g1, fun k x hg => run_get hr hg⟩
    · rw [step_1 hz] at hr; cases hr
  · have h1 : (V.nil, ([] : List EvT), p.err) = (v, l, 0) := (if_pos hp : stepT p st e = _).symm.trans h
    exact absurd (Prod.mk.inj (Prod.mk.inj h1).2).2 hp
end Go.Proofs.YtmccnmahegbmpaaGreat.J

/- ReduceOthers. -/
namespace Go.Proofs.YtmccnmahegbmpaaGreat.J
open Go Go.RowKit
set_option maxRecDepth 10000
set_option maxHeartbeats 4000000
theorem reduceOthers_ok {p : PgT} {st : V} {e : EvT} (hw : p.wf) (hst : st.wf) (he : e.wf) : Fn Tryz.prog 5 [.agg (p.cs false), .agg (st.cs false), .agg (e.cs false)] (.c (.bool true)) := by
  obtain ⟨sk, sb, stx, sks, sis⟩ := st
  obtain ⟨⟨v, l, c⟩, hS⟩ : ∃ q, stepT p (.mk sk sb stx sks sis) e = q := ⟨_, rfl⟩
  refine AC.of_J Tryz.func5 rfl Tryz.ntmps5 rfl fun w0 A0 => ?_
  refine Zs (JL.box_agg (.tmp rfl) rfl fun b3 => JL.box_agg (.tmp rfl) rfl fun b4 => JL.box_agg (.tmp rfl) rfl fun b5 => Zq rfl (QW.assign .const) (Zn (J.seq (Zs (Zq rfl (QW.call gofn7 .nil (alive16_ok)) (Zq rfl (QW.not (.tmp rfl)) ?_))))))
  refine Zn ?_
  refine J.cond (.tmp rfl) (fun c1 => ?_) (fun c1 => ?_)
  · skip
    exact absurd c1 (by simp)
    --closed
  skip
  refine Zk (J.seq (J.regionX mixed (Zo 0 2 [] rfl (fun _ ho_ => by first | exact QW.load_box 2 ty29 (.tmp rfl) ho_ rfl rfl | exact QW.load_box 2 ty29 (.tmp rfl) ho_ (take_at (PgT.cs_length _ _) rfl) (PgT.cs_length _ _)) ?_)))
  refine Zf 1 [19] rfl (fun _ => QW.call gofn9 (.cons (.tmp rfl) .nil) (of16_ok hw)) (Zo 2 1 [] rfl (fun _ ho_ => by first | exact QW.load_box 1 ty26 (.tmp rfl) ho_ rfl rfl | exact QW.load_box 1 ty26 (.tmp rfl) ho_ (take_at vl rfl) vl) ?_)
  refine Zo 3 0 [] rfl (fun _ ho_ => by first | exact QW.load_box 0 ty47 (.tmp rfl) ho_ rfl rfl | exact QW.load_box 0 ty47 (.tmp rfl) ho_ (take_at (EvT.cs_length _ _) rfl) (EvT.cs_length _ _)) ?_
  refine Zf 4 [20, 21, 22] rfl (fun _ => QW.call gofn15 (.cons (.tmp rfl) (.cons (.tmp rfl) (.cons (.tmp rfl) .nil))) ((hS ▸ redstep_ok (fr := true) (fr1 := false) (fr2 := false) (p := p) (st := (.mk sk sb stx sks sis)) (e := e) hw hst he))) (Zf 5 [23] rfl (fun _ => QW.move (.tmp rfl)) (Zf 6 [18] rfl (fun _ => QW.extract (.tmp rfl) rfl) (Zf 7 [18] rfl (fun _ => QW.extract (.tmp rfl) rfl) (Zf 8 [18] rfl (fun _ => QW.extract (.tmp rfl) rfl) (JX.a 9 rfl (AllocOp.mk z26 rfl) rfl rfl rfl rfl rfl (JX.one 10 [true, false, false, true, true, true, true, true, true, true] rfl (by kernel_rfl) (by kernel_rfl) rfl rfl (by kernel_rfl) rfl fun bs10_ pe_ ex_ => ?_))))))
  refine JL.conv (by (try simp only [vlF, bxF, tkM, lvM, Flt.val, Flt.bx, nx, nl, stepsO, valO, nthO, curO, mrg, AV.cellsOf, splice_zero, splice_succ, Nat.reduceAdd]); rfl) ?_
  first | refine JL.store_boxF 3 ty26 (.tmp rfl) rfl (.tmp rfl) (by first | rfl | assumption) rfl rfl rfl ?_ | refine JL.store_boxF 3 ty26 (.tmp rfl) rfl (.tmp rfl) (by first | rfl | assumption) rfl vl rfl ?_ | refine JL.store_boxF 3 ty26 (.tmp rfl) rfl (.tmp rfl) (by first | rfl | assumption) vl rfl rfl ?_ | refine JL.store_boxF 3 ty26 (.tmp rfl) rfl (.tmp rfl) (by first | rfl | assumption) vl vl rfl ?_ | refine JL.store_box 3 ty26 (.tmp rfl) rfl (.tmp rfl) (by first | rfl | assumption) rfl rfl rfl rfl ?_ | refine JL.store_box 3 ty26 (.tmp rfl) rfl (.tmp rfl) (by first | rfl | assumption) vl rfl rfl rfl ?_
  refine JL.nil ?_
  refine thenQ.n ⟨[], _, rfl, rfl, rfl, rfl, rfl, Reown.tkN 4 rfl, trivial, ⟨trivial, ⟨trivial, trivial⟩⟩, ?_⟩
  refine JX.conv (S' := [10, 9, 6, 5, 4, 3, 2, 1, 0]) rfl (by (try simp only [lvM]); rfl) (by (try simp only [vlF, bxF, tkM, lvM, Flt.val, Flt.bx, nx, nl, stepsO, valO, nthO, curO, mrg, AV.cellsOf, splice_zero, splice_succ, Nat.reduceAdd]); rfl) ?_
  refine Zf 11 [25] rfl (fun _ => QW.assign (.tmp rfl)) (Zf 12 [26] rfl (fun _ => QW.assign (.tmp rfl)) (JX.fin (by kernel_rfl) (by kernel_rfl) fun bs_ => ?_))
  refine QX.conv (by (try simp only [vlF, bxF, tkM, lvM, Flt.val, Flt.bx, nx, nl, stepsO, valO, nthO, curO, mrg, AV.cellsOf, splice_zero, splice_succ, Nat.reduceAdd]); rfl) ?_
  refine thenQ.n (Zs (Zq rfl (by first | exact QW.load_box 2 ty29 (.tmp rfl) rfl rfl rfl | exact QW.load_box 2 ty29 (.tmp rfl) rfl (take_at (PgT.cs_length _ _) rfl) (PgT.cs_length _ _)) ?_))
  refine Zq rfl (QW.field_ptr fo47_0 (.tmp rfl) rfl) (Zq rfl (QW.load_box1 0 ty9 (.tmp rfl) rfl EvT.at0) (Zq rfl (QW.call gofn17 (.cons (.tmp rfl) (.cons (.tmp rfl) .nil)) (rhandles_ok hw e.name)) (Zq rfl (QW.assign (.tmp rfl)) (Zn (J.seq (Zs (Zq rfl (QW.move (.tmp rfl)) (Zq rfl (QW.call gofn11 (.cons (.tmp rfl) .nil) (num16_ok _)) (Zq rfl (QW.neq (.tmp rfl) .const) ?_)))))))))
  refine Zq rfl (QW.move (.tmp rfl)) (Zg rfl (fun hg => (QW.move (.tmp rfl))) (Zg rfl (fun hg => (QW.lss (.when rfl hg) .const)) (Zq rfl (QW.pick_or (.tmp rfl) (.tmp rfl)) (Zn ?_))))
  refine J.cond (.tmp rfl) (fun c2 => ?_) (fun c2 => ?_)
  · skip
    have hc : ¬ c = 0 := fun h0 => by
      subst h0
      obtain ⟨m, hm, hat, -⟩ := stepT_others hw hst he hS
      rw [hat] at c2
      simp at c2
      omega
    exact Zs (Zq rfl (QW.move (.tmp rfl)) (Zq rfl (QW.call gofn11 (.cons (.tmp rfl) .nil) (num16_ok _)) (Zq rfl (QW.neq (.tmp rfl) .const) (Zq rfl (QW.assign (.tmp rfl)) (Zn (J.ret (thenQ.r (Zr [.k, .k, .k, .k] (RetEv.one rfl (REv.tmp rfl lr)) rfl ⟨ret_b (by simp [hc]), rfl⟩))))))))
  obtain rfl : c = 0 := by (simp at c2; exact c2.1)
  obtain ⟨m, hm, hat, hsg, hk5, hgv, hall⟩ := stepT_others hw hst he hS
  rw [hat]
  have hkl : sks.length = sis.length := (partOk_rec hsg.fine.part hk5).1
  have hs32 := hsg.len
  simp only [V.items] at hs32
  have hsl := (hw.hs _ (List.getElem_mem hm)).slen
  have hsl2 : (p.hs[m]).sets.length ≤ 9223372036854775805 := by unfold reach at hsl; omega
  refine Zk (J.seq (Zs (Zq rfl (QW.assign .const) (Zn (J.block (J.loopK (ι := Nat) [3, 4, 7, 10] (fun i => [(11, .c (.int .i64 (i : Int)))]) (fun _ oo => oo) (fun i => i ≤ sks.length) (fun i => sks.length - i) 0 (Nat.zero_le _) (Wk.re (.cons rfl lr (.cons rfl lr (.cons rfl lr (.cons rfl lr (.cons rfl lr .nil))))) (Reown.refl _) (fun _ h => by first | exact h | simp [h])) ?_))))))
  intro i hi
  refine J.conv (by (try simp only [nl, stepsO, valO, nthO, curO, mrg, AV.cellsOf, splice_zero, splice_succ, Nat.reduceAdd]); rfl) ?_
  refine J.seq (Zs (Zq rfl (QW.move (.tmp rfl)) (Zq rfl (QW.field_ptr fo26_3 (.tmp rfl) rfl) (Zq rfl (QW.load_box1 1 ty23 (.tmp rfl) rfl rfl) (Zq rfl (by first | exact QW.len_slE sl23 (.tmp rfl) wl | exact QW.len_slE sl23 (.tmp rfl) (EvT.css_length _ _) | exact QW.len_slE sl23 (.tmp rfl) (HdT.css_length _ _) | exact QW.len_slE sl23 (.tmp rfl) (SetT.css_length _ _) | exact QW.len_slE sl23 (.tmp rfl) (keysAV_length _) | exact QW.len_slE sl23 (.tmp rfl) (StT.css_length _) | exact QW.len_sl sl23 (.tmp rfl) | exact QW.len_nil sl23 (.tmp rfl)) ?_)))))
  refine Zq rfl (QW.lss (.tmp rfl) (.tmp rfl)) (Zq rfl (QW.move (.tmp rfl)) (Zg rfl (fun hg => (QW.move (.tmp rfl))) (Zg rfl (fun hg => (QW.field_ptr fo26_4 (.tmp rfl) rfl)) (Zg rfl (fun hg => (QW.load_box1 1 ty24 (.when rfl hg) rfl rfl)) (Zg rfl (fun hg => (by first | exact QW.len_slE sl24 (.when rfl hg) wl | exact QW.len_slE sl24 (.when rfl hg) (EvT.css_length _ _) | exact QW.len_slE sl24 (.when rfl hg) (HdT.css_length _ _) | exact QW.len_slE sl24 (.when rfl hg) (SetT.css_length _ _) | exact QW.len_slE sl24 (.when rfl hg) (keysAV_length _) | exact QW.len_slE sl24 (.when rfl hg) (StT.css_length _) | exact QW.len_sl sl24 (.when rfl hg) | exact QW.len_nil sl24 (.when rfl hg))) ?_)))))
  refine Zg rfl (fun hg => (QW.lss (.when rfl hg) (.when rfl hg))) (Zq rfl (QW.pick_and (.tmp rfl) (.tmp rfl)) (Zn ?_))
  refine J.cond (.tmp rfl) (fun c3 => ?_) (fun c3 => ?_)
  · skip
    have hlt : i < sks.length := by (simp [keysAV_length, V.css_length] at c3; omega)
    have hli : i < sis.length := by omega
    obtain ⟨y, hy, hyeq⟩ := hall sks[i] sis[i] (rec_getv hsg hk5 hlt hli rfl)
    have hyw : y.wf := by have := V.getv_wf (p := [⟨true, sks[i], 0⟩]) hgv.wf; rw [hy] at this; exact this
    have hkr : (sks[i]).length ≤ reach := hst.inv.2.2.2.2.2.1 _ (List.getElem_mem hlt)
    refine Zk (J.seq (J.block (Zs (Zq rfl (QW.assign .const) (Zn (J.seq (Zs (Zq rfl (QW.assign .const) (Zn ?_)))))))))
    refine J.block (J.loopK (ι := Nat × Bool) [3, 4, 7, 10, 11, 41, 42, 43, 44, 45, 46, 47, 48, 49, 50, 51, 52] (fun ⟨k, b⟩ => [(13, .c (.int .i64 (k : Int))), (12, .c (.bool b))]) (fun _ oo => oo) (fun ⟨k, b⟩ => k ≤ (p.hs[m]).sets.length ∧ b = ((p.hs[m]).sets.take k).any (fun s => decide (s.key = sks[i]))) (fun ⟨k, b⟩ => (p.hs[m]).sets.length - k) ⟨0, false⟩ (⟨Nat.zero_le _, rfl⟩) (Wk.re (.cons rfl lr (.cons rfl lr (.cons rfl lr (.cons rfl lr (.cons rfl lr (.cons rfl lr (.cons rfl lr (.cons rfl lr (.cons rfl lr (.cons rfl lr (.cons rfl lr (.cons rfl lr (.cons rfl lr (.cons rfl lr (.cons rfl lr (.cons rfl lr (.cons rfl lr (.cons rfl lr (.cons rfl lr .nil))))))))))))))))))) (Reown.refl _) (fun _ h => by first | exact h | simp [h])) ?_)
    intro ⟨k, b⟩ ⟨hk, hb⟩
    refine J.conv (by (try simp only [nl, stepsO, valO, nthO, curO, mrg, AV.cellsOf, splice_zero, splice_succ, Nat.reduceAdd]); rfl) ?_
    refine J.seq (Zs (Zq rfl (QW.move (.tmp rfl)) (Zq rfl (QW.field_ptr fo29_1 (.tmp rfl) rfl) (Zq rfl (QW.load_box1 2 ty27 (.tmp rfl) rfl PgT.at5) (Zq rfl (QW.move (.tmp rfl)) (Zq rfl (QW.index_sl sl27 ty57 rfl (.tmp rfl) (.tmp rfl) (by first | rfl | omega | (simp; done)) (by exact HdT.css_getE _ hm)) ?_))))))
    refine Zq rfl (QW.field_ref fo57_1 (.tmp rfl) rfl) (Zq rfl (QW.load_ref1 ty54 (.tmp rfl) rfl) (Zq rfl (by first | exact QW.len_slE sl54 (.tmp rfl) wl | exact QW.len_slE sl54 (.tmp rfl) (EvT.css_length _ _) | exact QW.len_slE sl54 (.tmp rfl) (HdT.css_length _ _) | exact QW.len_slE sl54 (.tmp rfl) (SetT.css_length _ _) | exact QW.len_slE sl54 (.tmp rfl) (keysAV_length _) | exact QW.len_slE sl54 (.tmp rfl) (StT.css_length _) | exact QW.len_sl sl54 (.tmp rfl) | exact QW.len_nil sl54 (.tmp rfl)) ?_))
    refine Zq rfl (QW.lss (.tmp rfl) (.tmp rfl)) (Zn ?_)
    refine J.cond (.tmp rfl) (fun c4 => ?_) (fun c4 => ?_)
    · skip
      have hlt2 : k < (p.hs[m]).sets.length := by simpa [SetT.css_length] using c4
      refine Zk (J.seq (J.block (J.regionK [12] mixed (Zf 0 [] rfl (fun _ => QW.move (.tmp rfl)) (Zf 1 [66] rfl (fun _ => QW.move (.tmp rfl)) (Zh 2 [67] rfl (fun _ hg => QW.field_ptr fo29_1 (.tmp rfl) rfl) (Zp 3 2 [68, 67] rfl (fun _ ho_ hg => QW.load_box1 2 ty27 (.when rfl hg) ho_ PgT.at5) (Zh 4 [67] rfl (fun _ hg => QW.move (.tmp rfl)) (Zh 5 [69, 70, 67] rfl (fun _ hg => QW.index_sl sl27 ty57 rfl (.when rfl hg) (.when rfl hg) (by first | rfl | omega | (simp; done)) (by exact HdT.css_getE _ hm)) ?_)))))))))
      refine Zh 6 [71, 67] rfl (fun _ hg => QW.field_ref fo57_1 (.when rfl hg) rfl) (Zh 7 [72, 67] rfl (fun _ hg => QW.load_ref1 ty54 (.when rfl hg) rfl) (Zh 8 [67] rfl (fun _ hg => QW.move (.tmp rfl)) (Zh 9 [73, 74, 67] rfl (fun _ hg => QW.index_sl sl54 ty62 rfl (.when rfl hg) (.when rfl hg) (by first | rfl | omega | (simp; done)) (by exact SetT.css_getE _ hlt2)) ?_)))
      refine Zh 10 [75, 67] rfl (fun _ hg => QW.field_ref fo62_0 (.when rfl hg) rfl) (Zh 11 [76, 67] rfl (fun _ hg => QW.load_ref1 ty9 (.when rfl hg) rfl) (Zh 12 [67] rfl (fun _ hg => QW.field_ptr fo26_3 (.tmp rfl) rfl) (Zp 13 1 [78, 67] rfl (fun _ ho_ hg => QW.load_box1 1 ty23 (.when rfl hg) ho_ rfl) (Zh 14 [67] rfl (fun _ hg => QW.move (.tmp rfl)) (Zh 15 [79, 80, 67] rfl (fun _ hg => QW.index_sl sl23 ty9 rfl (.when rfl hg) (.when rfl hg) (by first | rfl | omega | (simp; done)) (by exact keysAV_getE hlt)) ?_)))))
      refine Zh 16 [81, 67] rfl (fun _ hg => QW.load_ref1 ty9 (.when rfl hg) rfl) (Zh 17 [77, 82, 67] rfl (fun _ hg => QW.eql_s (.when rfl hg) (.when rfl hg)) (Zf 18 [67, 83] rfl (fun _ => QW.pick_or (.tmp rfl) (.tmp rfl)) (JX.last 19 rfl (by kernel_rfl) (by kernel_rfl) rfl rfl (by kernel_rfl) (by kernel_rfl) fun bs_ => ?_)))
      refine JL.conv (by (try simp only [vlF, bxF, tkM, lvM, Flt.val, Flt.bx, nx, nl, stepsO, valO, nthO, curO, mrg, AV.cellsOf, splice_zero, splice_succ, Nat.reduceAdd]); rfl) ?_
      refine Zq rfl (QW.assign (.tmp rfl)) (Zn (blkQ.n (thenQ.n (J.region_lit (Zq rfl (QW.move (.tmp rfl)) (Zq rfl (QW.add (.tmp rfl) .const (by first | exact w64n (by first | rfl | omega | (simp; done)) (by omega) | exact w64 (by omega) | rfl)) ?_))))))
      refine Zq rfl (QW.assign (.tmp rfl)) (Zn ?_)
      exact ⟨⟨k + 1, b || decide ((p.hs[m]).sets[k].key = sks[i])⟩, ⟨hlt2, by rw [hb, List.take_succ_eq_append_getElem hlt2, List.any_append]; simp⟩, by show (p.hs[m]).sets.length - (k + 1) < (p.hs[m]).sets.length - k; omega, Wk.re (.cons rfl lr (.cons rfl ((by first | (simp only [beq_eq_decide]; exact .refl _) | (rw [show ((p.hs[m]).sets[k].key == sks[i]) = decide ((p.hs[m]).sets[k].key = sks[i]) by (rw [Bool.eq_iff_iff]; simp)]; exact .refl _))) (.cons rfl lr (.cons rfl lr (.cons rfl lr (.cons rfl lr (.cons rfl lr (.cons rfl lr (.cons rfl lr (.cons rfl lr (.cons rfl lr (.cons rfl lr (.cons rfl lr (.cons rfl lr (.cons rfl lr (.cons rfl lr (.cons rfl lr (.cons rfl lr (.cons rfl lr .nil))))))))))))))))))) (Reown.refl _) (fun _ h => by first | exact h | simp [h])⟩
    obtain rfl : k = (p.hs[m]).sets.length := by (simp [SetT.css_length] at c4; omega)
    rw [List.take_length] at hb
    refine J.exit (thenQ.x (thenQ.x (blkQ.hit (thenQ.n (J.seq (J.regionX mixed (Zo 0 3 [] rfl (fun _ ho_ => by first | exact QW.load_box 3 ty26 (.tmp rfl) ho_ rfl rfl | exact QW.load_box 3 ty26 (.tmp rfl) ho_ (take_at vl rfl) vl) ?_)))))))
    refine Zf 1 [] rfl (fun _ => QW.field_ptr fo26_3 (.tmp rfl) rfl) (Zo 2 1 [87] rfl (fun _ ho_ => QW.load_box1 1 ty23 (.tmp rfl) ho_ rfl) (Zf 3 [] rfl (fun _ => QW.move (.tmp rfl)) (Zf 4 [88, 89] rfl (fun _ => QW.index_sl sl23 ty9 rfl (.tmp rfl) (.tmp rfl) (by first | rfl | omega | (simp; done)) (by exact keysAV_getE hlt)) ?_)))
    refine Zf 5 [90] rfl (fun _ => QW.load_ref1 ty9 (.tmp rfl) rfl) (Zf 6 [91] rfl (fun _ => QW.build (idx := [0, 1]) pl66 z66 rfl (.cons .const (.cons (.tmp rfl) .nil)) rfl rfl rfl rfl) (Zf 7 [92] rfl (fun _ => QW.buildSlice (idx := [0]) (xs := StT.css [⟨true, sks[i], 0⟩]) sl67 el66 z66 rfl (.cons (.tmp rfl) .nil) rfl rfl rfl rfl rfl rfl rfl rfl rfl) (Zf 8 [86, 93] rfl (fun _ => QW.call gofn18 (.cons (.tmp rfl) (.cons (.tmp rfl) .nil)) ((getAV_of hy ▸ get_ok (v := v) (p := [⟨true, sks[i], 0⟩]) Vc.self hgv.wf (step_wf ⟨hkr, show (-9223372036854775808 : Int) ≤ 0 ∧ (0 : Int) ≤ 9223372036854775807 by decide⟩)))) ?_)))
    refine Zf 9 [94] rfl (fun _ => QW.move (.tmp rfl)) (Zf 10 [85] rfl (fun _ => QW.extract (.tmp rfl) rfl) (Zf 11 [85] rfl (fun _ => QW.extract (.tmp rfl) rfl) (JX.a 12 rfl (AllocOp.mk z26 rfl) rfl rfl rfl rfl rfl (JX.one 13 [true, false, true, true, true, true, true, true, true, true, true, true, true] rfl (by kernel_rfl) (by kernel_rfl) rfl rfl (by kernel_rfl) rfl fun bs13_ pe_ ex_ => ?_))))
    refine JL.conv (by (try simp only [vlF, bxF, tkM, lvM, Flt.val, Flt.bx, nx, nl, stepsO, valO, nthO, curO, mrg, AV.cellsOf, splice_zero, splice_succ, Nat.reduceAdd]); rfl) ?_
    first | refine JL.store_boxF 4 ty26 (.tmp rfl) rfl (.tmp rfl) (by first | rfl | assumption) rfl rfl rfl ?_ | refine JL.store_boxF 4 ty26 (.tmp rfl) rfl (.tmp rfl) (by first | rfl | assumption) rfl vl rfl ?_ | refine JL.store_boxF 4 ty26 (.tmp rfl) rfl (.tmp rfl) (by first | rfl | assumption) vl rfl rfl ?_ | refine JL.store_boxF 4 ty26 (.tmp rfl) rfl (.tmp rfl) (by first | rfl | assumption) vl vl rfl ?_ | refine JL.store_box 4 ty26 (.tmp rfl) rfl (.tmp rfl) (by first | rfl | assumption) rfl rfl rfl rfl ?_ | refine JL.store_box 4 ty26 (.tmp rfl) rfl (.tmp rfl) (by first | rfl | assumption) vl rfl rfl rfl ?_
    refine JL.nil ?_
    refine thenQ.n ⟨[], _, rfl, rfl, rfl, rfl, rfl, Reown.tkN 5 rfl, trivial, ⟨trivial, trivial⟩, ?_⟩
    refine JX.conv (S' := [13, 12, 10, 9, 8, 7, 6, 5, 4, 3, 2, 1, 0]) rfl (by (try simp only [lvM]); rfl) (by (try simp only [vlF, bxF, tkM, lvM, Flt.val, Flt.bx, nx, nl, stepsO, valO, nthO, curO, mrg, AV.cellsOf, splice_zero, splice_succ, Nat.reduceAdd]); rfl) ?_
    refine Zf 14 [96] rfl (fun _ => QW.assign (.tmp rfl)) (JX.fin (by kernel_rfl) (by kernel_rfl) fun bs_ => ?_)
    refine QX.conv (by (try simp only [vlF, bxF, tkM, lvM, Flt.val, Flt.bx, nx, nl, stepsO, valO, nthO, curO, mrg, AV.cellsOf, splice_zero, splice_succ, Nat.reduceAdd]); rfl) ?_
    refine thenQ.n (J.seq (J.regionX mixed (Zf 0 [] rfl (fun _ => QW.move (.tmp rfl)) (Zf 1 [97] rfl (fun _ => QW.call gofn11 (.cons (.tmp rfl) .nil) (num16_ok _)) (Zf 2 [98] rfl (fun _ => QW.neq (.tmp rfl) .const) (Zf 3 [99] rfl (fun _ => QW.move (.tmp rfl)) (Zh 4 [100] rfl (fun _ hg => QW.move (.tmp rfl)) (Zh 5 [101, 100] rfl (fun _ hg => QW.not (.when rfl hg)) (Zh 6 [102, 100] rfl (fun _ hg => QW.move (.when rfl hg)) ?_)))))))))
    refine JX.o 7 4 [103] rfl rfl rfl rfl rfl rfl rfl rfl rfl (fun ow_ ho_ => (.gg rfl rfl rfl (fun hg => (by first | exact QW.load_box 4 ty26 (.tmp rfl) ho_ rfl rfl | exact QW.load_box 4 ty26 (.tmp rfl) ho_ (take_at vl rfl) vl)))) ?_
    refine JX.f 8 [103] rfl rfl rfl rfl rfl rfl rfl rfl (fun ow_ => (.gg rfl rfl rfl (fun hg => (QW.field_ptr fo26_4 (.tmp rfl) rfl)))) (JX.o 9 1 [105, 103] rfl rfl rfl rfl rfl rfl rfl rfl rfl (fun ow_ ho_ => (.gg rfl rfl rfl (fun hg => (QW.load_box1 1 ty24 (.when rfl hg) ho_ rfl)))) (JX.f 10 [103] rfl rfl rfl rfl rfl rfl rfl rfl (fun ow_ => (.gg rfl rfl rfl (fun hg => (QW.move (.tmp rfl))))) (JX.f 11 [106, 107, 103] rfl rfl rfl rfl rfl rfl rfl rfl (fun ow_ => (.gg rfl rfl rfl (fun hg => (QW.index_sl sl24 ty26 rfl (.when rfl hg) (.when rfl hg) (by first | rfl | omega | (simp; done)) (by exact V.css_getE _ hli))))) ?_)))
    refine JX.f 12 [108, 103] rfl rfl rfl rfl rfl rfl rfl rfl (fun ow_ => (.gg rfl rfl rfl (fun hg => (by first | exact QW.load_ref ty26 (.when rfl hg) rfl rfl | exact QW.load_ref ty26 (.when rfl hg) (take_at0 vl rfl) vl)))) ?_
    refine JX.f 13 [104, 109, 103] rfl rfl rfl rfl rfl rfl rfl rfl (fun ow_ => (.gg rfl rfl rfl (fun hg => (QW.call gofn12 (.cons (.when rfl hg) (.cons (.when rfl hg) .nil)) (sameValue_ok (fr := true) (fr2 := false) (v := y) (u := sis[i]) Vc.self Vc.self hyw (hst.inv.2.2.2.2.2.2 _ (List.getElem_mem hli))))))) (JX.f 14 [110, 103] rfl rfl rfl rfl rfl rfl rfl rfl (fun ow_ => (.gg rfl rfl rfl (fun hg => (QW.not (.when rfl hg))))) (Zh 15 [103, 111, 100] rfl (fun _ hg => by first | exact QW.pick_and (.when rfl hg) (.tmp rfl) | exact QW.pick_and2 hg (.when rfl hg) (.tmp rfl)) ?_))
    refine Zf 16 [100, 112] rfl (fun _ => QW.pick_or (.tmp rfl) (.tmp rfl)) (JX.fin (by kernel_rfl) (by kernel_rfl) fun bs_ => ?_)
    refine QX.conv (by (try simp only [vlF, bxF, tkM, lvM, Flt.val, Flt.bx, nx, nl, stepsO, valO, nthO, curO, mrg, AV.cellsOf, splice_zero, splice_succ, Nat.reduceAdd]); rfl) ?_
    refine thenQ.n ?_
    refine J.cond (.tmp rfl) (fun c5 => ?_) (fun c5 => ?_)
    · skip
      exfalso
      simp at c5
      have hno : ∀ s ∈ (p.hs[m]).sets, ¬ s.key = sks[i] := by (have := c5.1; rw [hb] at this; simpa using this)
      have := hyeq hno
      subst this
      simp [V.same_refl] at c5
      --closed
    skip
    refine J.skip (blkQ.n (thenQ.n (J.region_lit (Zq rfl (QW.move (.tmp rfl)) (Zq rfl (QW.add (.tmp rfl) .const (by first | exact w64n (by first | rfl | omega | (simp; done)) (by omega) | exact w64 (by omega) | rfl)) ?_)))))
    refine Zq rfl (QW.assign (.tmp rfl)) (Zn ?_)
    exact ⟨i + 1, hlt, by omega, Wk.re (.cons rfl lr (.cons rfl lr (.cons rfl lr (.cons rfl lr (.cons rfl lr .nil))))) ((Reown.perm (List.perm_append_comm (l₁ := [_, _, _, _]) (l₂ := [_]))).trans (Reown.drop [_] [_, _, _, _])) (fun _ h => by first | exact h | simp [h])⟩
  skip
  exact J.exit (thenQ.x (thenQ.x (blkQ.hit (thenQ.n (Zs (Zq rfl (QW.assign .const) (Zn (J.ret (Zr [.k, .k, .k, .k] (RetEv.one rfl (REv.tmp rfl lr)) rfl ⟨rfl, rfl⟩)))))))))
end Go.Proofs.YtmccnmahegbmpaaGreat.J

