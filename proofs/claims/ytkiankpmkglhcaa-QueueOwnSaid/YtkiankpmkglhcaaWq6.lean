/- Walks: two queues alike; the page's example; QueueNew. -/
import Derived.Test.YtkiankpmkglhcaaWq5
namespace Go.Proofs.Ytkiankpmkglhcaa.J
open Go Go.RowKit
set_option linter.unusedVariables false
set_option linter.unusedSimpArgs false
set_option maxRecDepth 10000
set_option maxHeartbeats 4000000

theorem EvT.sameQ {a b c d : Int} {l m : List EvT} (h1 : a = c) (h2 : b = d) (h3 : l = m) : QT.mk a b l = QT.mk c d m := by rw [h1, h2, h3]

theorem num18_ok (e : Int) : Fn Try.prog 40 [.c (.int .i64 e)] (.c (.int .i64 e)) := by
  refine AC.of_J Try.func40 rfl Try.ntmps40 rfl fun w0 A0 => ?_
  refine J.seq ?_
  refine J.region_lit ?_
  refine JL.q rfl rfl rfl (QW.assign .const) ?_
  refine JL.nil ?_
  refine thenQ.n ?_
  refine J.seq ?_
  refine J.region_lit ?_
  refine JL.q rfl rfl rfl (QW.move (.tmp rfl)) ?_
  refine JL.q rfl rfl rfl (QW.assign (.tmp rfl)) ?_
  refine JL.nil ?_
  refine thenQ.n ?_
  refine J.ret ?_
  exact ⟨_, selP [] _, _, RetEv.one rfl (REv.tmp rfl (.refl _)), rfl, sel_perm [] _, ⟨rfl, rfl⟩⟩

theorem alike18_ok {fr fr2 : Bool} {p q : QT} {ys zs : List AV} (hp : Qc fr p ys) (hq : Qc fr2 q zs) (hw : p.wf) (hw2 : q.wf) : Fn Try.prog 39 [.agg ys, .agg zs] (.c (.int .i64 (if p = q then 0 else 1))) := by
  obtain ⟨a, b, l⟩ := p
  obtain ⟨c, d, m⟩ := q
  subst hp hq
  obtain ⟨-, -, hl⟩ := hw
  obtain ⟨-, -, hm⟩ := hw2
  simp only at hl hm
  refine AC.of_J Try.func39 rfl Try.ntmps39 rfl fun w0 A0 => ?_
  refine J.seq ?_
  refine J.region_lit ?_
  refine JL.box_agg (.tmp rfl) rfl fun b2 => ?_
  refine JL.box_agg (.tmp rfl) rfl fun b3 => ?_
  refine JL.q rfl rfl rfl (QW.assign .const) ?_
  refine JL.nil ?_
  refine thenQ.n ?_
  refine J.seq ?_
  refine J.seq ?_
  refine J.region_lit ?_
  refine JL.q rfl rfl rfl (QW.field_ptr fo58_0 (.tmp rfl) rfl) ?_
  refine JL.q rfl rfl rfl (QW.load_box1 1 ty3 (.tmp rfl) rfl rfl) ?_
  refine JL.q rfl rfl rfl (QW.field_ptr fo61_0 (.tmp rfl) rfl) ?_
  refine JL.q rfl rfl rfl (QW.load_box1 0 ty3 (.tmp rfl) rfl rfl) ?_
  refine JL.q rfl rfl rfl (QW.neq (.tmp rfl) (.tmp rfl)) ?_
  refine JL.q rfl rfl rfl (QW.move (.tmp rfl)) ?_
  refine JL.g rfl rfl rfl rfl rfl (fun hg => (QW.field_ptr fo58_1 (.tmp rfl) rfl)) ?_
  refine JL.g rfl rfl rfl rfl rfl (fun hg => (QW.load_box1 1 ty3 (.when rfl hg) rfl rfl)) ?_
  refine JL.g rfl rfl rfl rfl rfl (fun hg => (QW.field_ptr fo61_1 (.tmp rfl) rfl)) ?_
  refine JL.g rfl rfl rfl rfl rfl (fun hg => (QW.load_box1 0 ty3 (.when rfl hg) rfl rfl)) ?_
  refine JL.g rfl rfl rfl rfl rfl (fun hg => (QW.neq (.when rfl hg) (.when rfl hg))) ?_
  refine JL.q rfl rfl rfl (QW.pick_or (.tmp rfl) (.tmp rfl)) ?_
  refine JL.q rfl rfl rfl (QW.move (.tmp rfl)) ?_
  refine JL.g rfl rfl rfl rfl rfl (fun hg => (QW.field_ptr fo58_2 (.tmp rfl) rfl)) ?_
  refine JL.g rfl rfl rfl rfl rfl (fun hg => (QW.load_box1 1 ty56 (.when rfl hg) rfl rfl)) ?_
  refine JL.g rfl rfl rfl rfl rfl (fun hg => (QW.field_ptr fo61_2 (.tmp rfl) rfl)) ?_
  refine JL.g rfl rfl rfl rfl rfl (fun hg => (QW.load_box1 0 ty56 (.when rfl hg) rfl rfl)) ?_
  refine JL.g rfl rfl rfl rfl rfl (fun hg => (QW.call gofn44 (.cons (.when rfl hg) (.cons (.when rfl hg) .nil)) (sameEvents_ok hl hm))) ?_
  refine JL.g rfl rfl rfl rfl rfl (fun hg => (QW.not (.when rfl hg))) ?_
  refine JL.q rfl rfl rfl (QW.pick_or (.tmp rfl) (.tmp rfl)) ?_
  refine JL.nil ?_
  refine thenQ.n ?_
  refine J.cond (.tmp rfl) (fun c1 => ?_) (fun c1 => ?_)
  · skip
    refine J.seq ?_
    refine J.region_lit ?_
    refine JL.q rfl rfl rfl (QW.assign .const) ?_
    refine JL.nil ?_
    refine thenQ.n ?_
    refine J.ret ?_
    refine thenQ.r ?_
    exact ⟨_, selP [.k, .k] _, _, RetEv.one rfl (REv.tmp rfl (.refl _)), rfl, sel_perm [.k, .k] _, ⟨by rw [if_neg]; intro e; simp at e; obtain ⟨rfl, rfl, rfl⟩ := e; simp at c1, rfl⟩⟩
  · skip
    refine J.skip ?_
    refine thenQ.n ?_
    refine J.seq ?_
    refine J.region_lit ?_
    refine JL.q rfl rfl rfl (QW.assign .const) ?_
    refine JL.nil ?_
    refine thenQ.n ?_
    refine J.ret ?_
    exact ⟨_, selP [.k, .k] _, _, RetEv.one rfl (REv.tmp rfl (.refl _)), rfl, sel_perm [.k, .k] _, ⟨by rw [if_pos]; simp at c1; obtain ⟨⟨h1, h2⟩, h3⟩ := c1; exact EvT.sameQ h1 h2 h3, rfl⟩⟩

theorem of18_ok {fr : Bool} {q : QT} {ys : List AV} (hq : Qc fr q ys) (hw : q.wf) : Fn Try.prog 45 [.agg ys] q.av := by
  obtain ⟨lim, la, l⟩ := q
  subst hq
  obtain ⟨-, -, hl⟩ := hw
  simp only at hl
  refine AC.of_J Try.func45 rfl Try.ntmps45 rfl fun w0 A0 => ?_
  refine J.seq ?_
  refine J.region_lit ?_
  refine JL.box_agg (.tmp rfl) rfl fun b1 => ?_
  refine JL.alloc z58 rfl rfl fun b2 => ?_
  refine JL.nil ?_
  refine thenQ.n ?_
  refine J.seq ?_
  refine J.region_tailK 7 mixed (by kernel_rfl) (by kernel_rfl) (by kernel_rfl) rfl ?_
  refine .cons [] rfl rfl rfl (.q rfl (QW.field_ptr fo61_0 (.tmp rfl) rfl)) ?_
  refine .cons [3] rfl rfl rfl (.q rfl (QW.load_box1 1 ty3 (.tmp rfl) rfl rfl)) ?_
  refine .cons [] rfl rfl rfl (.q rfl (QW.field_ptr fo61_1 (.tmp rfl) rfl)) ?_
  refine .cons [5] rfl rfl rfl (.q rfl (QW.load_box1 1 ty3 (.tmp rfl) rfl rfl)) ?_
  refine .cons [] rfl rfl rfl (.q rfl (QW.field_ptr fo61_2 (.tmp rfl) rfl)) ?_
  refine .cons [7] rfl rfl rfl (.q rfl (QW.load_box1 1 ty56 (.tmp rfl) rfl rfl)) ?_
  refine .cons [8] rfl rfl rfl (.q rfl (QW.call gofn88 (.cons (.tmp rfl) .nil) (copyEvents_rd hl))) ?_
  refine .nil ?_
  refine JL.q rfl rfl rfl (QW.build (idx := [0, 1, 2]) pl58 z58 rfl (.cons (.tmp rfl) (.cons (.tmp rfl) (.cons (.tmp rfl) .nil))) rfl rfl rfl rfl) ?_
  first | refine JL.store_boxF 0 ty58 (.tmp rfl) rfl (.tmp rfl) (by first | rfl | assumption) (rfl) (rfl) rfl ?_ | refine JL.store_box 0 ty58 (.tmp rfl) rfl (.tmp rfl) (by first | rfl | assumption) rfl rfl rfl rfl ?_
  refine JL.nil ?_
  refine thenQ.n ?_
  refine J.ret ?_
  exact ⟨_, selP [.k, .k] _, _, RetEv.one rfl (REv.cell 0 ty58 rfl rfl rfl rfl (.refl _)), rfl, sel_perm [.k, .k] _, ⟨rfl, rfl⟩⟩

def QT.new (n : Int) : QT := if n < 1 ∨ 64 < n then .nil else ⟨n, 0, []⟩
def newErr (n : Int) : Int := if n < 1 ∨ 64 < n then 4 else 0
theorem QT.new_wf (n : Int) (hn : -9223372036854775808 ≤ n ∧ n ≤ 9223372036854775807) : (QT.new n).wf := by
  unfold QT.new; split
  · exact ⟨by decide, by decide, EvT.wfs_nil⟩
  · exact ⟨hn, by simp only; omega, EvT.wfs_nil⟩
theorem qnew {n : Int} : Fn Try.prog 37 [.c (.int .i64 n)] (.tup [(QT.new n).av, .c (.int .i64 (newErr n))]) := by
  have h := qnew_ok n
  unfold QT.new newErr
  split at h <;> rename_i hc <;> (simp only [hc, if_true, if_false]; exact h)
theorem rqnew {n : Int} : Fn Try.prog 38 [.c (.int .i64 n)] (.tup [(QT.new n).av, .c (.int .i64 (newErr n))]) := by
  have h := rqnew_ok n
  unfold QT.new newErr
  split at h <;> rename_i hc <;> (simp only [hc, if_true, if_false]; exact h)
def evA : EvT := ⟨[97], .nil⟩
def evB : EvT := ⟨[98], .nil⟩
theorem V.nil_wf : V.nil.wf := .mk (by decide) (by decide) (by decide) (by decide) (by decide) (fun _ h => by cases h) (fun _ h => by cases h)
theorem evA_wf : evA.wf := ⟨by decide, V.nil_wf⟩
theorem evB_wf : evB.wf := ⟨by decide, V.nil_wf⟩
theorem evAB_wf : EvT.wfs [evA, evB] := ⟨by decide, fun e h => by
  rcases List.mem_cons.1 h with rfl | h
  · exact evA_wf
  · rcases List.mem_cons.1 h with rfl | h
    · exact evB_wf
    · cases h⟩
theorem QT.wf_of {a b : Int} {l : List EvT} (h1 : 0 ≤ a ∧ a ≤ 9223372036854775807) (h2 : 0 ≤ b ∧ b ≤ 9223372036854775807) (h : EvT.wfs l) : (QT.mk a b l).wf := ⟨⟨by simp only; omega, by simp only; omega⟩, ⟨by simp only; omega, by simp only; omega⟩, h⟩
theorem ev_nil_le {F : List (Value × AV)} {n : Str} : Le F (.agg [.c (str n), .c (.int .i64 0), .c (.int .u64 0), .c (str []), .c (.slice none 0 0), .c (.slice none 0 0)]) (.agg (EvT.cs true ⟨n, .nil⟩)) :=
  .aggL (.cons (.refl _) (.cons (.refl _) (.cons (.refl _) (.cons (.refl _) (.cons (.nil true false _) (.cons (.nil true false _) .nil))))))
theorem qnew4 : Fn Try.prog 37 [.c (.int .i64 4)] (.tup [(QT.mk 4 0 []).av, .c (.int .i64 0)]) := qnew_ok 4
theorem push1 : pushAV ⟨4, 0, []⟩ evA = .tup [(QT.mk 4 1 [evA]).av, .c (.int .i64 1), .c (.int .i64 0)] := pushAV_of (by decide)
theorem push2 : pushAV ⟨4, 1, [evA]⟩ evB = .tup [(QT.mk 4 2 [evA, evB]).av, .c (.int .i64 2), .c (.int .i64 0)] := pushAV_of (by decide)
theorem take1 : takeAV ⟨4, 2, [evA, evB]⟩ 1 = .tup [(QT.mk 4 2 [evB]).av, evsAV [evA], .c (.int .i64 1), .c (.int .i64 0)] := takeAV_of (by decide)

theorem alive18_ok : Fn Try.prog 41 [] (.c (.bool true)) := by
  refine AC.of_J Try.func41 rfl Try.ntmps41 rfl fun w0 A0 => ?_
  refine J.seq ?_
  refine J.region_lit ?_
  refine JL.q rfl rfl rfl (QW.assign .const) ?_
  refine JL.nil ?_
  refine thenQ.n ?_
  refine J.seq ?_
  refine J.region_lit ?_
  refine JL.q rfl rfl rfl (QW.call gofn37 (.cons .const .nil) (qnew4)) ?_
  refine JL.q rfl rfl rfl (QW.move (.tmp rfl)) ?_
  refine JL.q rfl rfl rfl (QW.extract (.tmp rfl) rfl) ?_
  refine JL.q rfl rfl rfl (QW.extract (.tmp rfl) rfl) ?_
  refine JL.alloc z58 rfl rfl fun b1 => ?_
  first | refine JL.store_boxF 0 ty58 (.tmp rfl) rfl (.tmp rfl) (by first | rfl | assumption) (rfl) (rfl) rfl ?_ | refine JL.store_box 0 ty58 (.tmp rfl) rfl (.tmp rfl) (by first | rfl | assumption) rfl rfl rfl rfl ?_
  refine JL.q rfl rfl rfl (QW.assign (.tmp rfl)) ?_
  refine JL.nil ?_
  refine thenQ.n ?_
  refine J.seq ?_
  refine J.region_lit ?_
  refine JL.q rfl rfl rfl (QW.load_box 0 ty58 (.tmp rfl) rfl rfl rfl) ?_
  refine JL.q rfl rfl rfl (QW.build (idx := [0]) pl70 z70 rfl (.cons .const .nil) rfl rfl rfl rfl) ?_
  refine JL.q rfl rfl rfl (QW.call gofn42 (.cons (.tmp rfl) (.cons (Ev.le (.tmp rfl) (ev_nil_le)) .nil)) (push1 ▸ qpush_ok Qc.self Ec.self (QT.wf_of (by decide) (by decide) EvT.wfs_nil) evA_wf)) ?_
  refine JL.q rfl rfl rfl (QW.move (.tmp rfl)) ?_
  refine JL.q rfl rfl rfl (QW.extract (.tmp rfl) rfl) ?_
  refine JL.q rfl rfl rfl (QW.extract (.tmp rfl) rfl) ?_
  refine JL.q rfl rfl rfl (QW.extract (.tmp rfl) rfl) ?_
  first | refine JL.store_boxF 0 ty58 (.tmp rfl) rfl (.tmp rfl) (by first | rfl | assumption) (rfl) (rfl) rfl ?_ | refine JL.store_box 0 ty58 (.tmp rfl) rfl (.tmp rfl) (by first | rfl | assumption) rfl rfl rfl rfl ?_
  refine JL.q rfl rfl rfl (QW.assign (.tmp rfl)) ?_
  refine JL.q rfl rfl rfl (QW.assign (.tmp rfl)) ?_
  refine JL.nil ?_
  refine thenQ.n ?_
  refine J.seq ?_
  refine J.region_lit ?_
  refine JL.q rfl rfl rfl (QW.load_box 0 ty58 (.tmp rfl) rfl rfl rfl) ?_
  refine JL.q rfl rfl rfl (QW.build (idx := [0]) pl70 z70 rfl (.cons .const .nil) rfl rfl rfl rfl) ?_
  refine JL.q rfl rfl rfl (QW.call gofn42 (.cons (.tmp rfl) (.cons (Ev.le (.tmp rfl) (ev_nil_le)) .nil)) (push2 ▸ qpush_ok Qc.self Ec.self (QT.wf_of (by decide) (by decide) (EvT.wfs.one evA_wf)) evB_wf)) ?_
  refine JL.q rfl rfl rfl (QW.move (.tmp rfl)) ?_
  refine JL.q rfl rfl rfl (QW.extract (.tmp rfl) rfl) ?_
  refine JL.q rfl rfl rfl (QW.extract (.tmp rfl) rfl) ?_
  refine JL.q rfl rfl rfl (QW.extract (.tmp rfl) rfl) ?_
  first | refine JL.store_boxF 0 ty58 (.tmp rfl) rfl (.tmp rfl) (by first | rfl | assumption) (rfl) (rfl) rfl ?_ | refine JL.store_box 0 ty58 (.tmp rfl) rfl (.tmp rfl) (by first | rfl | assumption) rfl rfl rfl rfl ?_
  refine JL.q rfl rfl rfl (QW.assign (.tmp rfl)) ?_
  refine JL.q rfl rfl rfl (QW.assign (.tmp rfl)) ?_
  refine JL.nil ?_
  refine thenQ.n ?_
  refine J.seq ?_
  refine J.region_lit ?_
  refine JL.q rfl rfl rfl (QW.load_box 0 ty58 (.tmp rfl) rfl rfl rfl) ?_
  refine JL.q rfl rfl rfl (QW.call gofn43 (.cons (.tmp rfl) (.cons .const .nil)) (take1 ▸ qtake_ok Qc.self 1 (QT.wf_of (by decide) (by decide) evAB_wf))) ?_
  refine JL.q rfl rfl rfl (QW.move (.tmp rfl)) ?_
  refine JL.q rfl rfl rfl (QW.extract (.tmp rfl) rfl) ?_
  refine JL.q rfl rfl rfl (QW.extract (.tmp rfl) rfl) ?_
  refine JL.q rfl rfl rfl (QW.extract (.tmp rfl) rfl) ?_
  refine JL.q rfl rfl rfl (QW.extract (.tmp rfl) rfl) ?_
  first | refine JL.store_boxF 0 ty58 (.tmp rfl) rfl (.tmp rfl) (by first | rfl | assumption) (rfl) (rfl) rfl ?_ | refine JL.store_box 0 ty58 (.tmp rfl) rfl (.tmp rfl) (by first | rfl | assumption) rfl rfl rfl rfl ?_
  refine JL.q rfl rfl rfl (QW.assign (.tmp rfl)) ?_
  refine JL.q rfl rfl rfl (QW.assign (.tmp rfl)) ?_
  refine JL.q rfl rfl rfl (QW.assign (.tmp rfl)) ?_
  refine JL.nil ?_
  refine thenQ.n ?_
  refine J.seq ?_
  refine J.region_lit ?_
  refine JL.q rfl rfl rfl (QW.move (.tmp rfl)) ?_
  refine JL.q rfl rfl rfl (QW.call gofn40 (.cons (.tmp rfl) .nil) (num18_ok _)) ?_
  refine JL.q rfl rfl rfl (QW.move (.tmp rfl)) ?_
  refine JL.q rfl rfl rfl (QW.call gofn40 (.cons (.tmp rfl) .nil) (num18_ok _)) ?_
  refine JL.q rfl rfl rfl (QW.add (.tmp rfl) (.tmp rfl) (by first | exact w64n (by first | rfl | omega | (simp; done)) (by omega) | exact w64 (by omega) | rfl)) ?_
  refine JL.q rfl rfl rfl (QW.move (.tmp rfl)) ?_
  refine JL.q rfl rfl rfl (QW.call gofn40 (.cons (.tmp rfl) .nil) (num18_ok _)) ?_
  refine JL.q rfl rfl rfl (QW.add (.tmp rfl) (.tmp rfl) (by first | exact w64n (by first | rfl | omega | (simp; done)) (by omega) | exact w64 (by omega) | rfl)) ?_
  refine JL.q rfl rfl rfl (QW.move (.tmp rfl)) ?_
  refine JL.q rfl rfl rfl (QW.call gofn40 (.cons (.tmp rfl) .nil) (num18_ok _)) ?_
  refine JL.q rfl rfl rfl (QW.add (.tmp rfl) (.tmp rfl) (by first | exact w64n (by first | rfl | omega | (simp; done)) (by omega) | exact w64 (by omega) | rfl)) ?_
  refine JL.q rfl rfl rfl (QW.eql (.tmp rfl) .const) ?_
  refine JL.q rfl rfl rfl (QW.move (.tmp rfl)) ?_
  refine JL.g rfl rfl rfl rfl rfl (fun hg => (QW.move (.tmp rfl))) ?_
  refine JL.g rfl rfl rfl rfl rfl (fun hg => (QW.eql (.when rfl hg) .const)) ?_
  refine JL.q rfl rfl rfl (QW.pick_and (.tmp rfl) (.tmp rfl)) ?_
  refine JL.q rfl rfl rfl (QW.move (.tmp rfl)) ?_
  refine JL.g rfl rfl rfl rfl rfl (fun hg => (QW.move (.tmp rfl))) ?_
  refine JL.g rfl rfl rfl rfl rfl (fun hg => (QW.eql (.when rfl hg) .const)) ?_
  refine JL.q rfl rfl rfl (QW.pick_and (.tmp rfl) (.tmp rfl)) ?_
  refine JL.q rfl rfl rfl (QW.move (.tmp rfl)) ?_
  refine JL.g rfl rfl rfl rfl rfl (fun hg => (QW.move (.tmp rfl))) ?_
  refine JL.g rfl rfl rfl rfl rfl (fun hg => (by first | exact QW.len_slE sl56 (.when rfl hg) (EvT.css_length _ _) | exact QW.len_sl sl56 (.when rfl hg) | exact QW.len_nil sl56 (.when rfl hg))) ?_
  refine JL.g rfl rfl rfl rfl rfl (fun hg => (QW.eql (.when rfl hg) .const)) ?_
  refine JL.q rfl rfl rfl (QW.pick_and (.tmp rfl) (.tmp rfl)) ?_
  refine JL.q rfl rfl rfl (QW.move (.tmp rfl)) ?_
  refine JL.g rfl rfl rfl rfl rfl (fun hg => (QW.move (.tmp rfl))) ?_
  refine JL.g rfl rfl rfl rfl rfl (fun hg => (QW.index_sl sl56 ty70 rfl (.when rfl hg) .const (by first | rfl | omega | (simp; done)) (by rfl))) ?_
  refine JL.g rfl rfl rfl rfl rfl (fun hg => (QW.field_ref fo70_0 (.when rfl hg) rfl)) ?_
  refine JL.g rfl rfl rfl rfl rfl (fun hg => (QW.load_ref1 ty9 (.when rfl hg) rfl)) ?_
  refine JL.g rfl rfl rfl rfl rfl (fun hg => (QW.eql_s (.when rfl hg) .const)) ?_
  refine JL.q rfl rfl rfl (QW.pick_and (.tmp rfl) (.tmp rfl)) ?_
  refine JL.q rfl rfl rfl (QW.move (.tmp rfl)) ?_
  refine JL.g rfl rfl rfl rfl rfl (fun hg => (QW.move (.tmp rfl))) ?_
  refine JL.g rfl rfl rfl rfl rfl (fun hg => (QW.eql (.when rfl hg) .const)) ?_
  refine JL.q rfl rfl rfl (QW.pick_and (.tmp rfl) (.tmp rfl)) ?_
  refine JL.q rfl rfl rfl (QW.move (.tmp rfl)) ?_
  refine JL.g rfl rfl rfl rfl rfl (fun hg => (QW.field_ptr fo58_2 (.tmp rfl) rfl)) ?_
  refine JL.g rfl rfl rfl rfl rfl (fun hg => (QW.load_box1 0 ty56 (.when rfl hg) rfl rfl)) ?_
  refine JL.g rfl rfl rfl rfl rfl (fun hg => (by first | exact QW.len_slE sl56 (.when rfl hg) (EvT.css_length _ _) | exact QW.len_sl sl56 (.when rfl hg) | exact QW.len_nil sl56 (.when rfl hg))) ?_
  refine JL.g rfl rfl rfl rfl rfl (fun hg => (QW.eql (.when rfl hg) .const)) ?_
  refine JL.q rfl rfl rfl (QW.pick_and (.tmp rfl) (.tmp rfl)) ?_
  refine JL.q rfl rfl rfl (QW.assign (.tmp rfl)) ?_
  refine JL.nil ?_
  refine thenQ.n ?_
  refine J.ret ?_
  exact ⟨_, selP [.k] _, _, RetEv.one rfl (REv.tmp rfl (.refl _)), rfl, sel_perm [.k] _, ⟨rfl, rfl⟩⟩

theorem queueNew_ok (n : Int) (hn : -9223372036854775808 ≤ n ∧ n ≤ 9223372036854775807) : Fn Try.prog 9 [.c (.int .i64 n)] (.c (.bool true)) := by
  refine AC.of_J Try.func9 rfl Try.ntmps9 rfl fun w0 A0 => ?_
  refine J.seq ?_
  refine J.region_lit ?_
  refine JL.q rfl rfl rfl (QW.assign .const) ?_
  refine JL.nil ?_
  refine thenQ.n ?_
  refine J.seq ?_
  refine J.region_lit ?_
  refine JL.q rfl rfl rfl (QW.move (.tmp rfl)) ?_
  refine JL.q rfl rfl rfl (QW.call gofn37 (.cons (.tmp rfl) .nil) (qnew)) ?_
  refine JL.q rfl rfl rfl (QW.move (.tmp rfl)) ?_
  refine JL.q rfl rfl rfl (QW.extract (.tmp rfl) rfl) ?_
  refine JL.q rfl rfl rfl (QW.extract (.tmp rfl) rfl) ?_
  refine JL.alloc z58 rfl rfl fun b3 => ?_
  first | refine JL.store_boxF 0 ty58 (.tmp rfl) rfl (.tmp rfl) (by first | rfl | assumption) (rfl) (rfl) rfl ?_ | refine JL.store_box 0 ty58 (.tmp rfl) rfl (.tmp rfl) (by first | rfl | assumption) rfl rfl rfl rfl ?_
  refine JL.q rfl rfl rfl (QW.assign (.tmp rfl)) ?_
  refine JL.nil ?_
  refine thenQ.n ?_
  refine J.seq ?_
  refine J.region_lit ?_
  refine JL.q rfl rfl rfl (QW.move (.tmp rfl)) ?_
  refine JL.q rfl rfl rfl (QW.call gofn38 (.cons (.tmp rfl) .nil) (rqnew)) ?_
  refine JL.q rfl rfl rfl (QW.move (.tmp rfl)) ?_
  refine JL.q rfl rfl rfl (QW.extract (.tmp rfl) rfl) ?_
  refine JL.q rfl rfl rfl (QW.extract (.tmp rfl) rfl) ?_
  refine JL.alloc z61 rfl rfl fun b5 => ?_
  first | refine JL.store_boxF 0 ty61 (.tmp rfl) rfl (.tmp rfl) (by first | rfl | assumption) (rfl) (rfl) rfl ?_ | refine JL.store_box 0 ty61 (.tmp rfl) rfl (.tmp rfl) (by first | rfl | assumption) rfl rfl rfl rfl ?_
  refine JL.q rfl rfl rfl (QW.assign (.tmp rfl)) ?_
  refine JL.nil ?_
  refine thenQ.n ?_
  refine J.seq ?_
  refine J.region_lit ?_
  refine JL.q rfl rfl rfl (QW.load_box 1 ty58 (.tmp rfl) rfl rfl rfl) ?_
  refine JL.q rfl rfl rfl (QW.load_box 0 ty61 (.tmp rfl) rfl rfl rfl) ?_
  refine JL.q rfl rfl rfl (QW.call gofn39 (.cons (.tmp rfl) (.cons (.tmp rfl) .nil)) (alike18_ok Qc.self Qc.self (QT.new_wf n hn) (QT.new_wf n hn))) ?_
  refine JL.q rfl rfl rfl (QW.eql (.tmp rfl) .const) ?_
  refine JL.q rfl rfl rfl (QW.move (.tmp rfl)) ?_
  refine JL.g rfl rfl rfl rfl rfl (fun hg => (QW.move (.tmp rfl))) ?_
  refine JL.g rfl rfl rfl rfl rfl (fun hg => (QW.call gofn40 (.cons (.when rfl hg) .nil) (num18_ok _))) ?_
  refine JL.g rfl rfl rfl rfl rfl (fun hg => (QW.move (.tmp rfl))) ?_
  refine JL.g rfl rfl rfl rfl rfl (fun hg => (QW.eql (.when rfl hg) (.when rfl hg))) ?_
  refine JL.q rfl rfl rfl (QW.pick_and (.tmp rfl) (.tmp rfl)) ?_
  refine JL.q rfl rfl rfl (QW.move (.tmp rfl)) ?_
  refine JL.g rfl rfl rfl rfl rfl (fun hg => (QW.call gofn41 .nil (alive18_ok))) ?_
  refine JL.q rfl rfl rfl (QW.pick_and (.tmp rfl) (.tmp rfl)) ?_
  refine JL.q rfl rfl rfl (QW.assign (.tmp rfl)) ?_
  refine JL.nil ?_
  refine thenQ.n ?_
  refine J.ret ?_
  exact ⟨_, selP [.k, .k] _, _, RetEv.one rfl (REv.tmp rfl (.refl _)), rfl, sel_perm [.k, .k] _, ⟨by simp, rfl⟩⟩

end Go.Proofs.Ytkiankpmkglhcaa.J
