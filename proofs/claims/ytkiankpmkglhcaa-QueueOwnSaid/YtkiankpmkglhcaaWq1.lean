/- Walks: events: may one be, lists of them. -/
import Derived.Test.YtkiankpmkglhcaaQ0
import Derived.Test.YtkiankpmkglhcaaWv6
namespace Go.Proofs.Ytkiankpmkglhcaa.J
open Go Go.RowKit
set_option linter.unusedVariables false
set_option linter.unusedSimpArgs false
set_option maxRecDepth 10000
set_option maxHeartbeats 4000000

theorem name_ok (s : Str) : Fn Try.prog 122 [.c (str s)] (.c (.bool (nameOk s))) := by
  refine AC.of_J Try.func122 rfl Try.ntmps122 rfl fun w0 A0 => ?_
  refine J.seq ?_
  refine J.region_lit ?_
  refine JL.q rfl rfl rfl (QW.assign .const) ?_
  refine JL.nil ?_
  refine thenQ.n ?_
  refine J.seq ?_
  refine J.region_lit ?_
  refine JL.q rfl rfl rfl (QW.move (.tmp rfl)) ?_
  refine JL.q rfl rfl rfl (QW.neq_s (.tmp rfl) .const) ?_
  refine JL.q rfl rfl rfl (QW.move (.tmp rfl)) ?_
  refine JL.g rfl rfl rfl rfl rfl (fun hg => (QW.move (.tmp rfl))) ?_
  refine JL.g rfl rfl rfl rfl rfl (fun hg => (QW.len_s st9 (.when rfl hg))) ?_
  refine JL.g rfl rfl rfl rfl rfl (fun hg => (QW.leq (.when rfl hg) .const)) ?_
  refine JL.q rfl rfl rfl (QW.pick_and (.tmp rfl) (.tmp rfl)) ?_
  refine JL.q rfl rfl rfl (QW.assign (.tmp rfl)) ?_
  refine JL.nil ?_
  refine thenQ.n ?_
  refine J.ret ?_
  exact ⟨_, selP [] _, _, RetEv.one rfl (REv.tmp rfl (.refl _)), rfl, sel_perm [] _, ⟨by simp only [nameOk, keyOk]; congr 3; rw [Bool.eq_iff_iff]; cases s <;> simp [bne] <;> omega, rfl⟩⟩

theorem rname_ok (s : Str) : Fn Try.prog 89 [.c (str s)] (.c (.bool (nameOk s))) := by
  refine AC.of_J Try.func89 rfl Try.ntmps89 rfl fun w0 A0 => ?_
  refine J.seq ?_
  refine J.region_lit ?_
  refine JL.q rfl rfl rfl (QW.assign .const) ?_
  refine JL.nil ?_
  refine thenQ.n ?_
  refine J.seq ?_
  refine J.region_lit ?_
  refine JL.q rfl rfl rfl (QW.move (.tmp rfl)) ?_
  refine JL.q rfl rfl rfl (QW.len_s st9 (.tmp rfl)) ?_
  refine JL.q rfl rfl rfl (QW.geq (.tmp rfl) .const) ?_
  refine JL.q rfl rfl rfl (QW.move (.tmp rfl)) ?_
  refine JL.g rfl rfl rfl rfl rfl (fun hg => (QW.move (.tmp rfl))) ?_
  refine JL.g rfl rfl rfl rfl rfl (fun hg => (QW.len_s st9 (.when rfl hg))) ?_
  refine JL.g rfl rfl rfl rfl rfl (fun hg => (QW.leq (.when rfl hg) .const)) ?_
  refine JL.q rfl rfl rfl (QW.pick_and (.tmp rfl) (.tmp rfl)) ?_
  refine JL.q rfl rfl rfl (QW.assign (.tmp rfl)) ?_
  refine JL.nil ?_
  refine thenQ.n ?_
  refine J.ret ?_
  exact ⟨_, selP [] _, _, RetEv.one rfl (REv.tmp rfl (.refl _)), rfl, sel_perm [] _, ⟨by simp only [nameOk, keyOk]; congr 3; rw [Bool.eq_iff_iff]; simp; omega, rfl⟩⟩

theorem event_ok {fr : Bool} {e : EvT} {ys : List AV} (he : Ec fr e ys) (hw : e.wf) : Fn Try.prog 84 [.agg ys] (.c (.int .i64 (evErr e))) := by
  obtain ⟨nm, v⟩ := e
  obtain ⟨-, hv⟩ := hw
  subst he
  refine AC.of_J Try.func84 rfl Try.ntmps84 rfl fun w0 A0 => ?_
  refine J.seq ?_
  refine J.region_lit ?_
  refine JL.box_agg (.tmp rfl) rfl fun b1 => ?_
  refine JL.q rfl rfl rfl (QW.assign .const) ?_
  refine JL.nil ?_
  refine thenQ.n ?_
  refine J.seq ?_
  refine J.seq ?_
  refine J.region_lit ?_
  refine JL.q rfl rfl rfl (QW.field_ptr fo70_0 (.tmp rfl) rfl) ?_
  refine JL.q rfl rfl rfl (QW.load_box1 0 ty9 (.tmp rfl) rfl rfl) ?_
  refine JL.q rfl rfl rfl (QW.call gofn122 (.cons (.tmp rfl) .nil) (name_ok _)) ?_
  refine JL.q rfl rfl rfl (QW.not (.tmp rfl)) ?_
  refine JL.nil ?_
  refine thenQ.n ?_
  refine J.cond (.tmp rfl) (fun c1 => ?_) (fun c1 => ?_)
  · skip
    simp at c1
    refine J.seq ?_
    refine J.region_lit ?_
    refine JL.q rfl rfl rfl (QW.assign .const) ?_
    refine JL.nil ?_
    refine thenQ.n ?_
    refine J.ret ?_
    refine thenQ.r ?_
    exact ⟨_, selP [.k] _, _, RetEv.one rfl (REv.tmp rfl (.refl _)), rfl, sel_perm [.k] _, ⟨by simp [evErr, c1], rfl⟩⟩
  · skip
    simp at c1
    refine J.skip ?_
    refine thenQ.n ?_
    refine J.seq ?_
    refine J.region_lit ?_
    refine JL.q rfl rfl rfl (QW.field_ptr fo70_1 (.tmp rfl) rfl) ?_
    refine JL.q rfl rfl rfl (by first | exact QW.load_box 0 ty26 (.tmp rfl) rfl rfl rfl | exact QW.load_box 0 ty26 (.tmp rfl) rfl (take_at (V.cs_length _ _) rfl) (V.cs_length _ _)) ?_
    refine JL.q rfl rfl rfl (QW.call gofn24 (.cons (.tmp rfl) .nil) (check_ok Vc.self hv)) ?_
    refine JL.q rfl rfl rfl (QW.assign (.tmp rfl)) ?_
    refine JL.nil ?_
    refine thenQ.n ?_
    refine J.ret ?_
    exact ⟨_, selP [.k] _, _, RetEv.one rfl (REv.tmp rfl (.refl _)), rfl, sel_perm [.k] _, ⟨by simp [evErr, c1], rfl⟩⟩

theorem odd_ok {fr : Bool} {e : EvT} {ys : List AV} (he : Ec fr e ys) (hw : e.wf) : Fn Try.prog 92 [.agg ys] (.c (.bool (!evOk e))) := by
  subst he
  refine AC.of_J Try.func92 rfl Try.ntmps92 rfl fun w0 A0 => ?_
  refine J.seq ?_
  refine J.region_lit ?_
  refine JL.box_agg (.tmp rfl) rfl fun b1 => ?_
  refine JL.q rfl rfl rfl (QW.assign .const) ?_
  refine JL.nil ?_
  refine thenQ.n ?_
  refine J.seq ?_
  refine J.region_lit ?_
  refine JL.q rfl rfl rfl (by first | exact QW.load_box 0 ty70 (.tmp rfl) rfl rfl rfl | exact QW.load_box 0 ty70 (.tmp rfl) rfl (take_at (EvT.cs_length _ _) rfl) (EvT.cs_length _ _)) ?_
  refine JL.q rfl rfl rfl (QW.call gofn84 (.cons (.tmp rfl) .nil) (event_ok Ec.self hw)) ?_
  refine JL.q rfl rfl rfl (QW.neq (.tmp rfl) .const) ?_
  refine JL.q rfl rfl rfl (QW.assign (.tmp rfl)) ?_
  refine JL.nil ?_
  refine thenQ.n ?_
  refine J.ret ?_
  exact ⟨_, selP [.k] _, _, RetEv.one rfl (REv.tmp rfl (.refl _)), rfl, sel_perm [.k] _, ⟨ret_b (by rw [evOk_iff]; simp), rfl⟩⟩

theorem indexEv_ok {fr c : Bool} {l : List EvT} {g : FuncId} (hl : EvT.wfs l) (hg : goFn Try.prog g = true) (p : EvT → Bool) (hp : ∀ e ∈ l, Fn Try.prog g [.agg (e.cs fr)] (.c (.bool (p e)))) :
    Fn Try.prog 124 [.sl fr c eEv (EvT.css fr l), .c (.func (.func g) #[] #[])] (.c (.int .i64 (idxF p l 0))) := by
  have hlen := hl.len
  refine AC.of_J Try.func124 rfl Try.ntmps124 rfl fun w0 A0 => ?_
  refine J.seq ?_
  refine J.region_lit ?_
  refine JL.q rfl rfl rfl (QW.assign .const) ?_
  refine JL.nil ?_
  refine thenQ.n ?_
  refine J.seq ?_
  refine J.seq ?_
  refine J.region_lit ?_
  refine JL.q rfl rfl rfl (QW.move (.tmp rfl)) ?_
  refine JL.q rfl rfl rfl (by first | exact QW.len_sl sl56 (.tmp rfl) | exact QW.len_nil sl56 (.tmp rfl)) ?_
  refine JL.q rfl rfl rfl (QW.move .const) ?_
  refine JL.nil ?_
  refine thenQ.n ?_
  refine J.block ?_
  refine J.loopK (ι := Nat) [0, 1, 7] (fun j => [(8, .c (.int .i64 (j : Int)))]) (fun _ oo => oo) (fun j => j ≤ l.length ∧ idxF p l 0 = idxF p (l.drop j) (j : Int)) (fun j => l.length - j) 0 (⟨Nat.zero_le _, rfl⟩) (Wk.re (.cons rfl (.refl _) (.cons rfl (.refl _) (.cons rfl (.refl _) (.cons rfl (.refl _) .nil)))) (Reown.refl _) (fun _ h => by first | exact h | simp [h])) ?_
  intro j ⟨hj, hi⟩
  refine J.conv (by (try simp only [stepsO, List.map_cons, List.map_nil, valO, nthO, curO, mrg, List.reverse_cons, List.reverse_nil, List.nil_append, List.cons_append, List.append_nil, List.getElem?_cons_zero, List.getElem?_cons_succ, Option.map_some, Option.getD_some, List.set_cons_zero, List.set_cons_succ, AV.cellsOf, splice_zero, splice_succ, Nat.zero_add, Nat.reduceAdd]); rfl) ?_
  refine J.seq ?_
  refine J.region_lit ?_
  refine JL.q rfl rfl rfl (QW.lss (.tmp rfl) (.tmp rfl)) ?_
  refine JL.nil ?_
  refine thenQ.n ?_
  refine J.seq ?_
  refine J.cond (.tmp rfl) (fun c1 => ?_) (fun c1 => ?_)
  · skip
    have hlt : j < l.length := by simpa [EvT.css_length] using c1
    refine J.skip ?_
    refine thenQ.n ?_
    refine J.seq ?_
    refine J.block ?_
    refine J.seq ?_
    refine J.region_lit ?_
    refine JL.q rfl rfl rfl (QW.move (.tmp rfl)) ?_
    refine JL.q rfl rfl rfl (QW.assign (.tmp rfl)) ?_
    refine JL.nil ?_
    refine thenQ.n ?_
    refine J.seq ?_
    refine J.region_lit ?_
    refine JL.q rfl rfl rfl (QW.move (.tmp rfl)) ?_
    refine JL.q rfl rfl rfl (QW.move (.tmp rfl)) ?_
    refine JL.q rfl rfl rfl (QW.move (.tmp rfl)) ?_
    refine JL.q rfl rfl rfl (QW.index_sl sl56 ty70 rfl (.tmp rfl) (.tmp rfl) (by first | rfl | omega | (simp; done)) (by exact EvT.css_getE _ hlt)) ?_
    refine JL.q rfl rfl rfl (by first | exact QW.load_ref ty70 (.tmp rfl) rfl rfl | exact QW.load_ref ty70 (.tmp rfl) (take_at0 (EvT.cs_length _ _) rfl) (EvT.cs_length _ _)) ?_
    refine JL.q rfl rfl rfl (QW.callV hg (.tmp rfl) (.cons (.tmp rfl) .nil) rfl (hp _ (List.getElem_mem hlt))) ?_
    refine JL.nil ?_
    refine thenQ.n ?_
    refine J.cond (.tmp rfl) (fun c2 => ?_) (fun c2 => ?_)
    · skip
      refine J.seq ?_
      refine J.region_lit ?_
      refine JL.q rfl rfl rfl (QW.move (.tmp rfl)) ?_
      refine JL.q rfl rfl rfl (QW.assign (.tmp rfl)) ?_
      refine JL.nil ?_
      refine thenQ.n ?_
      refine J.ret ?_
      refine blkQ.r ?_
      refine thenQ.r ?_
      refine thenQ.r ?_
      refine blkQ.r ?_
      refine thenQ.r ?_
      exact ⟨_, selP [] _, _, RetEv.one rfl (REv.tmp rfl (.refl _)), rfl, sel_perm [] _, ⟨by rw [hi, idxF_drop p hlt, c2]; rfl, rfl⟩⟩
    · skip
      refine J.skip ?_
      refine blkQ.n ?_
      refine thenQ.n ?_
      refine J.region_lit ?_
      refine JL.q rfl rfl rfl (QW.add (.tmp rfl) .const (by first | exact w64n (by first | rfl | omega | (simp; done)) (by omega) | exact w64 (by omega) | rfl)) ?_
      refine JL.q rfl rfl rfl (QW.move (.tmp rfl)) ?_
      refine JL.nil ?_
      refine thenQ.n ?_
      rw [idxF_drop p hlt, c2] at hi
      exact ⟨j + 1, ⟨hlt, by rw [hi]; simp⟩, by omega, Wk.re (.cons rfl (.refl _) (.cons rfl (.refl _) (.cons rfl (.refl _) (.cons rfl (.refl _) .nil)))) (Reown.refl _) (fun _ h => by first | exact h | simp [h])⟩
  · skip
    have hge : l.length ≤ j := by simpa [EvT.css_length] using c1
    refine J.exit ?_
    refine thenQ.x ?_
    refine thenQ.x ?_
    refine blkQ.hit ?_
    refine thenQ.n ?_
    refine J.seq ?_
    refine J.region_lit ?_
    refine JL.q rfl rfl rfl (QW.assign .const) ?_
    refine JL.nil ?_
    refine thenQ.n ?_
    refine J.ret ?_
    exact ⟨_, selP [] _, _, RetEv.one rfl (REv.tmp rfl (.refl _)), rfl, sel_perm [] _, ⟨by rw [hi, List.drop_of_length_le hge]; rfl, rfl⟩⟩

theorem containsEv_ok {fr c : Bool} {l : List EvT} {g : FuncId} (hl : EvT.wfs l) (hg : goFn Try.prog g = true) (p : EvT → Bool) (hp : ∀ e ∈ l, Fn Try.prog g [.agg (e.cs fr)] (.c (.bool (p e)))) :
    Fn Try.prog 93 [.sl fr c eEv (EvT.css fr l), .c (.func (.func g) #[] #[])] (.c (.bool (l.any p))) := by
  refine AC.of_J Try.func93 rfl Try.ntmps93 rfl fun w0 A0 => ?_
  refine J.seq ?_
  refine J.region_lit ?_
  refine JL.q rfl rfl rfl (QW.assign .const) ?_
  refine JL.nil ?_
  refine thenQ.n ?_
  refine J.seq ?_
  refine J.region_lit ?_
  refine JL.q rfl rfl rfl (QW.move (.tmp rfl)) ?_
  refine JL.q rfl rfl rfl (QW.move (.tmp rfl)) ?_
  refine JL.q rfl rfl rfl (QW.call gofn124 (.cons (.tmp rfl) (.cons (.tmp rfl) .nil)) (indexEv_ok hl hg p hp)) ?_
  refine JL.q rfl rfl rfl (QW.geq (.tmp rfl) .const) ?_
  refine JL.q rfl rfl rfl (QW.assign (.tmp rfl)) ?_
  refine JL.nil ?_
  refine thenQ.n ?_
  refine J.ret ?_
  exact ⟨_, selP [] _, _, RetEv.one rfl (REv.tmp rfl (.refl _)), rfl, sel_perm [] _, ⟨ret_b (by rw [← idxF_any p l 0 (Int.le_refl _)]), rfl⟩⟩

theorem qcheck_ok {fr : Bool} {q : QT} {ys : List AV} (hq : Qc fr q ys) (hw : q.wf) : Fn Try.prog 50 [.agg ys] (.c (.int .i64 q.err)) := by
  obtain ⟨lim, la, l⟩ := q
  subst hq
  obtain ⟨-, -, hl⟩ := hw
  simp only at hl
  refine AC.of_J Try.func50 rfl Try.ntmps50 rfl fun w0 A0 => ?_
  refine J.seq ?_
  refine J.region_lit ?_
  refine JL.box_agg (.tmp rfl) rfl fun b1 => ?_
  refine JL.q rfl rfl rfl (QW.assign .const) ?_
  refine JL.nil ?_
  refine thenQ.n ?_
  refine J.seq ?_
  refine J.region_lit ?_
  refine JL.q rfl rfl rfl (QW.field_ptr fo58_2 (.tmp rfl) rfl) ?_
  refine JL.q rfl rfl rfl (QW.load_box1 0 ty56 (.tmp rfl) rfl rfl) ?_
  refine JL.q rfl rfl rfl (by first | exact QW.len_sl sl56 (.tmp rfl) | exact QW.len_nil sl56 (.tmp rfl)) ?_
  refine JL.q rfl rfl rfl (QW.assign (.tmp rfl)) ?_
  refine JL.nil ?_
  refine thenQ.n ?_
  refine J.seq ?_
  refine J.region_lit ?_
  refine JL.q rfl rfl rfl (QW.assign .func) ?_
  refine JL.nil ?_
  refine thenQ.n ?_
  refine J.seq ?_
  refine J.seq ?_
  refine J.region_lit ?_
  refine JL.q rfl rfl rfl (QW.field_ptr fo58_0 (.tmp rfl) rfl) ?_
  refine JL.q rfl rfl rfl (QW.load_box1 0 ty3 (.tmp rfl) rfl rfl) ?_
  refine JL.q rfl rfl rfl (QW.move (.tmp rfl)) ?_
  refine JL.q rfl rfl rfl (QW.max2 .const (.tmp rfl)) ?_
  refine JL.q rfl rfl rfl (QW.lss (.tmp rfl) (.tmp rfl)) ?_
  refine JL.q rfl rfl rfl (QW.move (.tmp rfl)) ?_
  refine JL.g rfl rfl rfl rfl rfl (fun hg => (QW.field_ptr fo58_0 (.tmp rfl) rfl)) ?_
  refine JL.g rfl rfl rfl rfl rfl (fun hg => (QW.load_box1 0 ty3 (.when rfl hg) rfl rfl)) ?_
  refine JL.g rfl rfl rfl rfl rfl (fun hg => (QW.gtr (.when rfl hg) .const)) ?_
  refine JL.q rfl rfl rfl (QW.pick_or (.tmp rfl) (.tmp rfl)) ?_
  refine JL.q rfl rfl rfl (QW.move (.tmp rfl)) ?_
  refine JL.g rfl rfl rfl rfl rfl (fun hg => (QW.field_ptr fo58_1 (.tmp rfl) rfl)) ?_
  refine JL.g rfl rfl rfl rfl rfl (fun hg => (QW.load_box1 0 ty3 (.when rfl hg) rfl rfl)) ?_
  refine JL.g rfl rfl rfl rfl rfl (fun hg => (QW.move (.tmp rfl))) ?_
  refine JL.g rfl rfl rfl rfl rfl (fun hg => (QW.lss (.when rfl hg) (.when rfl hg))) ?_
  refine JL.q rfl rfl rfl (QW.pick_or (.tmp rfl) (.tmp rfl)) ?_
  refine JL.q rfl rfl rfl (QW.move (.tmp rfl)) ?_
  refine JL.g rfl rfl rfl rfl rfl (fun hg => (QW.field_ptr fo58_1 (.tmp rfl) rfl)) ?_
  refine JL.g rfl rfl rfl rfl rfl (fun hg => (QW.load_box1 0 ty3 (.when rfl hg) rfl rfl)) ?_
  refine JL.g rfl rfl rfl rfl rfl (fun hg => (QW.gtr (.when rfl hg) .const)) ?_
  refine JL.q rfl rfl rfl (QW.pick_or (.tmp rfl) (.tmp rfl)) ?_
  refine JL.q rfl rfl rfl (QW.move (.tmp rfl)) ?_
  refine JL.g rfl rfl rfl rfl rfl (fun hg => (QW.field_ptr fo58_2 (.tmp rfl) rfl)) ?_
  refine JL.g rfl rfl rfl rfl rfl (fun hg => (QW.load_box1 0 ty56 (.when rfl hg) rfl rfl)) ?_
  refine JL.g rfl rfl rfl rfl rfl (fun hg => (QW.move (.tmp rfl))) ?_
  refine JL.g rfl rfl rfl rfl rfl (fun hg => (QW.call gofn93 (.cons (.when rfl hg) (.cons (.when rfl hg) .nil)) (containsEv_ok hl gofn92 (fun e => !evOk e) (fun e he => odd_ok Ec.self (hl.2 e he))))) ?_
  refine JL.q rfl rfl rfl (QW.pick_or (.tmp rfl) (.tmp rfl)) ?_
  refine JL.nil ?_
  refine thenQ.n ?_
  refine J.cond (.tmp rfl) (fun c1 => ?_) (fun c1 => ?_)
  · skip
    refine J.seq ?_
    refine J.region_lit ?_
    refine JL.q rfl rfl rfl (QW.assign .const) ?_
    refine JL.nil ?_
    refine thenQ.n ?_
    refine J.ret ?_
    refine thenQ.r ?_
    exact ⟨_, selP [.k] _, _, RetEv.one rfl (REv.tmp rfl (.refl _)), rfl, sel_perm [.k] _, ⟨by congr 3; unfold QT.err QT.ok; simp [EvT.css_length] at *; grind, rfl⟩⟩
  · skip
    refine J.skip ?_
    refine thenQ.n ?_
    refine J.seq ?_
    refine J.region_lit ?_
    refine JL.q rfl rfl rfl (QW.assign .const) ?_
    refine JL.nil ?_
    refine thenQ.n ?_
    refine J.ret ?_
    exact ⟨_, selP [.k] _, _, RetEv.one rfl (REv.tmp rfl (.refl _)), rfl, sel_perm [.k] _, ⟨by congr 3; unfold QT.err QT.ok; simp [EvT.css_length] at *; grind, rfl⟩⟩

theorem rqcheck_ok {fr : Bool} {q : QT} {ys : List AV} (hq : Qc fr q ys) (hw : q.wf) : Fn Try.prog 51 [.agg ys] (.c (.int .i64 q.err)) := by
  obtain ⟨lim, la, l⟩ := q
  subst hq
  obtain ⟨-, -, hl⟩ := hw
  simp only at hl
  have hlen := hl.len
  refine AC.of_J Try.func51 rfl Try.ntmps51 rfl fun w0 A0 => ?_
  refine J.seq ?_
  refine J.region_lit ?_
  refine JL.box_agg (.tmp rfl) rfl fun b1 => ?_
  refine JL.q rfl rfl rfl (QW.assign .const) ?_
  refine JL.nil ?_
  refine thenQ.n ?_
  refine J.seq ?_
  refine J.seq ?_
  refine J.region_lit ?_
  refine JL.q rfl rfl rfl (QW.field_ptr fo61_0 (.tmp rfl) rfl) ?_
  refine JL.q rfl rfl rfl (QW.load_box1 0 ty3 (.tmp rfl) rfl rfl) ?_
  refine JL.q rfl rfl rfl (QW.lss (.tmp rfl) .const) ?_
  refine JL.q rfl rfl rfl (QW.move (.tmp rfl)) ?_
  refine JL.g rfl rfl rfl rfl rfl (fun hg => (QW.field_ptr fo61_0 (.tmp rfl) rfl)) ?_
  refine JL.g rfl rfl rfl rfl rfl (fun hg => (QW.load_box1 0 ty3 (.when rfl hg) rfl rfl)) ?_
  refine JL.g rfl rfl rfl rfl rfl (fun hg => (QW.gtr (.when rfl hg) .const)) ?_
  refine JL.q rfl rfl rfl (QW.pick_or (.tmp rfl) (.tmp rfl)) ?_
  refine JL.q rfl rfl rfl (QW.move (.tmp rfl)) ?_
  refine JL.g rfl rfl rfl rfl rfl (fun hg => (QW.field_ptr fo61_2 (.tmp rfl) rfl)) ?_
  refine JL.g rfl rfl rfl rfl rfl (fun hg => (QW.load_box1 0 ty56 (.when rfl hg) rfl rfl)) ?_
  refine JL.g rfl rfl rfl rfl rfl (fun hg => (by first | exact QW.len_sl sl56 (.when rfl hg) | exact QW.len_nil sl56 (.when rfl hg))) ?_
  refine JL.g rfl rfl rfl rfl rfl (fun hg => (QW.field_ptr fo61_0 (.tmp rfl) rfl)) ?_
  refine JL.g rfl rfl rfl rfl rfl (fun hg => (QW.load_box1 0 ty3 (.when rfl hg) rfl rfl)) ?_
  refine JL.g rfl rfl rfl rfl rfl (fun hg => (QW.gtr (.when rfl hg) (.when rfl hg))) ?_
  refine JL.q rfl rfl rfl (QW.pick_or (.tmp rfl) (.tmp rfl)) ?_
  refine JL.q rfl rfl rfl (QW.move (.tmp rfl)) ?_
  refine JL.g rfl rfl rfl rfl rfl (fun hg => (QW.field_ptr fo61_1 (.tmp rfl) rfl)) ?_
  refine JL.g rfl rfl rfl rfl rfl (fun hg => (QW.load_box1 0 ty3 (.when rfl hg) rfl rfl)) ?_
  refine JL.g rfl rfl rfl rfl rfl (fun hg => (QW.field_ptr fo61_2 (.tmp rfl) rfl)) ?_
  refine JL.g rfl rfl rfl rfl rfl (fun hg => (QW.load_box1 0 ty56 (.when rfl hg) rfl rfl)) ?_
  refine JL.g rfl rfl rfl rfl rfl (fun hg => (by first | exact QW.len_sl sl56 (.when rfl hg) | exact QW.len_nil sl56 (.when rfl hg))) ?_
  refine JL.g rfl rfl rfl rfl rfl (fun hg => (QW.lss (.when rfl hg) (.when rfl hg))) ?_
  refine JL.q rfl rfl rfl (QW.pick_or (.tmp rfl) (.tmp rfl)) ?_
  refine JL.q rfl rfl rfl (QW.move (.tmp rfl)) ?_
  refine JL.g rfl rfl rfl rfl rfl (fun hg => (QW.field_ptr fo61_1 (.tmp rfl) rfl)) ?_
  refine JL.g rfl rfl rfl rfl rfl (fun hg => (QW.load_box1 0 ty3 (.when rfl hg) rfl rfl)) ?_
  refine JL.g rfl rfl rfl rfl rfl (fun hg => (QW.gtr (.when rfl hg) .const)) ?_
  refine JL.q rfl rfl rfl (QW.pick_or (.tmp rfl) (.tmp rfl)) ?_
  refine JL.nil ?_
  refine thenQ.n ?_
  refine J.cond (.tmp rfl) (fun c1 => ?_) (fun c1 => ?_)
  · skip
    skip
    refine J.seq ?_
    refine J.region_lit ?_
    refine JL.q rfl rfl rfl (QW.assign .const) ?_
    refine JL.nil ?_
    refine thenQ.n ?_
    refine J.ret ?_
    refine thenQ.r ?_
    exact ⟨_, selP [.k] _, _, RetEv.one rfl (REv.tmp rfl (.refl _)), rfl, sel_perm [.k] _, ⟨by congr 3; unfold QT.err QT.ok; simp [EvT.css_length] at *; grind, rfl⟩⟩
  · skip
    simp [EvT.css_length] at c1
    refine J.skip ?_
    refine thenQ.n ?_
    refine J.seq ?_
    refine J.seq ?_
    refine J.region_lit ?_
    refine JL.q rfl rfl rfl (QW.assign .const) ?_
    refine JL.nil ?_
    refine thenQ.n ?_
    refine J.block ?_
    refine J.loopK (ι := Nat) [1] (fun j => [(3, .c (.int .i64 (j : Int)))]) (fun _ oo => oo) (fun j => j ≤ l.length ∧ (l.take j).all evOk = true) (fun j => l.length - j) 0 (⟨Nat.zero_le _, rfl⟩) (Wk.re (.cons rfl (.refl _) (.cons rfl (.refl _) .nil)) (Reown.refl _) (fun _ h => by first | exact h | simp [h])) ?_
    intro j ⟨hj, ha⟩
    refine J.conv (by (try simp only [stepsO, List.map_cons, List.map_nil, valO, nthO, curO, mrg, List.reverse_cons, List.reverse_nil, List.nil_append, List.cons_append, List.append_nil, List.getElem?_cons_zero, List.getElem?_cons_succ, Option.map_some, Option.getD_some, List.set_cons_zero, List.set_cons_succ, AV.cellsOf, splice_zero, splice_succ, Nat.zero_add, Nat.reduceAdd]); rfl) ?_
    refine J.seq ?_
    refine J.seq ?_
    refine J.region_lit ?_
    refine JL.q rfl rfl rfl (QW.move (.tmp rfl)) ?_
    refine JL.q rfl rfl rfl (QW.field_ptr fo61_2 (.tmp rfl) rfl) ?_
    refine JL.q rfl rfl rfl (QW.load_box1 0 ty56 (.tmp rfl) rfl rfl) ?_
    refine JL.q rfl rfl rfl (by first | exact QW.len_sl sl56 (.tmp rfl) | exact QW.len_nil sl56 (.tmp rfl)) ?_
    refine JL.q rfl rfl rfl (QW.lss (.tmp rfl) (.tmp rfl)) ?_
    refine JL.nil ?_
    refine thenQ.n ?_
    refine J.cond (.tmp rfl) (fun c2 => ?_) (fun c2 => ?_)
    · skip
      have hlt : j < l.length := by simpa [EvT.css_length] using c2
      refine J.skip ?_
      refine thenQ.n ?_
      refine J.seq ?_
      refine J.block ?_
      refine J.seq ?_
      refine J.region_lit ?_
      refine JL.q rfl rfl rfl (QW.field_ptr fo61_2 (.tmp rfl) rfl) ?_
      refine JL.q rfl rfl rfl (QW.load_box1 0 ty56 (.tmp rfl) rfl rfl) ?_
      refine JL.q rfl rfl rfl (QW.move (.tmp rfl)) ?_
      refine JL.q rfl rfl rfl (QW.index_sl sl56 ty70 rfl (.tmp rfl) (.tmp rfl) (by first | rfl | omega | (simp; done)) (by exact EvT.css_getE _ hlt)) ?_
      refine JL.q rfl rfl rfl (QW.field_ref fo70_0 (.tmp rfl) rfl) ?_
      refine JL.q rfl rfl rfl (QW.load_ref1 ty9 (.tmp rfl) rfl) ?_
      refine JL.q rfl rfl rfl (QW.call gofn89 (.cons (.tmp rfl) .nil) (rname_ok _)) ?_
      refine JL.q rfl rfl rfl (QW.not (.tmp rfl)) ?_
      refine JL.q rfl rfl rfl (QW.move (.tmp rfl)) ?_
      refine JL.g rfl rfl rfl rfl rfl (fun hg => (QW.field_ptr fo61_2 (.tmp rfl) rfl)) ?_
      refine JL.g rfl rfl rfl rfl rfl (fun hg => (QW.load_box1 0 ty56 (.when rfl hg) rfl rfl)) ?_
      refine JL.g rfl rfl rfl rfl rfl (fun hg => (QW.move (.tmp rfl))) ?_
      refine JL.g rfl rfl rfl rfl rfl (fun hg => (QW.index_sl sl56 ty70 rfl (.when rfl hg) (.when rfl hg) (by first | rfl | omega | (simp; done)) (by exact EvT.css_getE _ hlt))) ?_
      refine JL.g rfl rfl rfl rfl rfl (fun hg => (QW.field_ref fo70_1 (.when rfl hg) rfl)) ?_
      refine JL.g rfl rfl rfl rfl rfl (fun hg => (by first | exact QW.load_ref ty26 (.when rfl hg) rfl rfl | exact QW.load_ref ty26 (.when rfl hg) (take_at0 (V.cs_length _ _) rfl) (V.cs_length _ _))) ?_
      refine JL.g rfl rfl rfl rfl rfl (fun hg => (QW.call gofn25 (.cons (.when rfl hg) .nil) (rcheck_ok Vc.self (hl.2 _ (List.getElem_mem _)).arg))) ?_
      refine JL.g rfl rfl rfl rfl rfl (fun hg => (QW.neq (.when rfl hg) .const)) ?_
      refine JL.q rfl rfl rfl (QW.pick_or (.tmp rfl) (.tmp rfl)) ?_
      refine JL.nil ?_
      refine thenQ.n ?_
      refine J.cond (.tmp rfl) (fun c3 => ?_) (fun c3 => ?_)
      · skip
        skip
        refine J.seq ?_
        refine J.region_lit ?_
        refine JL.q rfl rfl rfl (QW.assign .const) ?_
        refine JL.nil ?_
        refine thenQ.n ?_
        refine J.ret ?_
        refine blkQ.r ?_
        refine thenQ.r ?_
        refine thenQ.r ?_
        refine blkQ.r ?_
        refine thenQ.r ?_
        exact ⟨_, selP [.k] _, _, RetEv.one rfl (REv.tmp rfl (.refl _)), rfl, sel_perm [.k] _, ⟨by rw [QT.err, if_neg]; unfold QT.ok; simp only [Bool.and_eq_true, not_and]; intro _ h; have := (List.all_eq_true.1 h) l[j] (List.getElem_mem hlt); simp at c3; unfold evOk at this; simp at this; grind, rfl⟩⟩
      · skip
        skip
        refine J.skip ?_
        refine blkQ.n ?_
        refine thenQ.n ?_
        refine J.region_lit ?_
        refine JL.q rfl rfl rfl (QW.move (.tmp rfl)) ?_
        refine JL.q rfl rfl rfl (QW.add (.tmp rfl) .const (by first | exact w64n (by first | rfl | omega | (simp; done)) (by omega) | exact w64 (by omega) | rfl)) ?_
        refine JL.q rfl rfl rfl (QW.assign (.tmp rfl)) ?_
        refine JL.nil ?_
        refine thenQ.n ?_
        exact ⟨j + 1, ⟨hlt, by rw [List.take_succ_eq_append_getElem hlt, List.all_append, ha]; simp at c3; simp [evOk, c3]⟩, by omega, Wk.re (.cons rfl (.refl _) (.cons rfl (.refl _) .nil)) (Reown.refl _) (fun _ h => by first | exact h | simp [h])⟩
    · skip
      have hge : l.length ≤ j := by simpa [EvT.css_length] using c2
      refine J.exit ?_
      refine thenQ.x ?_
      refine thenQ.x ?_
      refine blkQ.hit ?_
      refine thenQ.n ?_
      refine J.seq ?_
      refine J.region_lit ?_
      refine JL.q rfl rfl rfl (QW.assign .const) ?_
      refine JL.nil ?_
      refine thenQ.n ?_
      refine J.ret ?_
      exact ⟨_, selP [.k] _, _, RetEv.one rfl (REv.tmp rfl (.refl _)), rfl, sel_perm [.k] _, ⟨by rw [QT.err, if_pos]; rw [List.take_of_length_le hge] at ha; unfold QT.ok; simp [ha]; omega, rfl⟩⟩

end Go.Proofs.Ytkiankpmkglhcaa.J
