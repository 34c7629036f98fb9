/- Walks: the page's pushing and taking; a queue in memory of its own; two queues alike. -/
import Derived.Test.YtkiankpmkglhcaaWq4
import Derived.Test.YtkiankpmkglhcaaJ20
namespace Go.Proofs.Ytkiankpmkglhcaa.J
open Go Go.RowKit
set_option linter.unusedVariables false
set_option linter.unusedSimpArgs false
set_option maxRecDepth 10000
set_option maxHeartbeats 4000000

def fullAV (q : QT) : AV := .tup [.c (.bool q.full), .c (.int .i64 q.err)]
theorem fullAV_of {q : QT} {b : Bool} {f : Int} (h : q.full = b) (h2 : q.err = f) : fullAV q = .tup [.c (.bool b), .c (.int .i64 f)] := by simp [fullAV, h, h2]
theorem EvT.wfs.one {e : EvT} (h : e.wf) : EvT.wfs [e] := ⟨by simp only [List.length_singleton]; decide, fun x hx => by simp only [List.mem_singleton] at hx; subst hx; exact h⟩
def QownR : QT → AV → List Own → Prop
  | ⟨a, b, l⟩, x, o => ∃ v, x = .agg [.c (.int .i64 a), .c (.int .i64 b), .c v] ∧ v.oneCell' = true ∧ o = [.arr v eEv (EvT.css true l)]

theorem qfull_ok {fr : Bool} {q : QT} {ys : List AV} (hq : Qc fr q ys) (hw : q.wf) : Fn Try.prog 48 [.agg ys] (fullAV q) := by
  obtain ⟨lim, la, l⟩ := q
  subst hq
  obtain ⟨hl1, hl2, hev⟩ := hw
  have hw : (QT.mk lim la l).wf := ⟨hl1, hl2, hev⟩
  simp only at hl1 hl2 hev
  have hlen := hev.len
  refine AC.of_J Try.func48 rfl Try.ntmps48 rfl fun w0 A0 => ?_
  refine J.seq ?_
  refine J.region_lit ?_
  refine JL.box_agg (.tmp rfl) rfl fun b1 => ?_
  refine JL.q rfl rfl rfl (QW.assign .const) ?_
  refine JL.q rfl rfl rfl (QW.assign .const) ?_
  refine JL.nil ?_
  refine thenQ.n ?_
  refine J.seq ?_
  refine J.seq ?_
  refine J.region_lit ?_
  refine JL.q rfl rfl rfl (QW.load_box 0 ty58 (.tmp rfl) rfl rfl rfl) ?_
  refine JL.q rfl rfl rfl (QW.call gofn50 (.cons (.tmp rfl) .nil) (qcheck_ok Qc.mk hw)) ?_
  refine JL.q rfl rfl rfl (QW.assign (.tmp rfl)) ?_
  refine JL.nil ?_
  refine thenQ.n ?_
  refine J.seq ?_
  refine J.region_lit ?_
  refine JL.q rfl rfl rfl (QW.move (.tmp rfl)) ?_
  refine JL.q rfl rfl rfl (QW.neq (.tmp rfl) .const) ?_
  refine JL.nil ?_
  refine thenQ.n ?_
  refine J.cond (.tmp rfl) (fun c1 => ?_) (fun c1 => ?_)
  · skip
    simp at c1
    obtain ⟨hno, he9⟩ := QT.err_no c1
    refine J.seq ?_
    refine J.region_lit ?_
    refine JL.q rfl rfl rfl (QW.move (.tmp rfl)) ?_
    refine JL.q rfl rfl rfl (QW.assign .const) ?_
    refine JL.q rfl rfl rfl (QW.assign (.tmp rfl)) ?_
    refine JL.nil ?_
    refine thenQ.n ?_
    refine J.ret ?_
    refine thenQ.r ?_
    exact ⟨_, selP [.k] _, _, RetEv.two rfl (REv.tmp rfl (.refl _)) (REv.tmp rfl (.refl _)), rfl, sel_perm [.k] _, ⟨congrArg Res.ret (fullAV_of (q := ⟨lim, la, l⟩) (b := false) (f := (QT.mk lim la l).err) (by simp [QT.full, hno]) rfl).symm, rfl⟩⟩
  · skip
    simp at c1
    have hok := QT.err_ok.1 c1
    obtain ⟨o1, o2, o3, o4, o5, -⟩ := QT.ok_inv hok
    simp only at o1 o2 o3 o4 o5
    refine J.skip ?_
    refine thenQ.n ?_
    refine J.seq ?_
    refine J.region_lit ?_
    refine JL.q rfl rfl rfl (QW.field_ptr fo58_2 (.tmp rfl) rfl) ?_
    refine JL.q rfl rfl rfl (QW.load_box1 0 ty56 (.tmp rfl) rfl rfl) ?_
    refine JL.q rfl rfl rfl (by first | exact QW.len_slE sl56 (.tmp rfl) (EvT.css_length _ _) | exact QW.len_sl sl56 (.tmp rfl) | exact QW.len_nil sl56 (.tmp rfl)) ?_
    refine JL.q rfl rfl rfl (QW.field_ptr fo58_0 (.tmp rfl) rfl) ?_
    refine JL.q rfl rfl rfl (QW.load_box1 0 ty3 (.tmp rfl) rfl rfl) ?_
    refine JL.q rfl rfl rfl (QW.eql (.tmp rfl) (.tmp rfl)) ?_
    refine JL.q rfl rfl rfl (QW.assign (.tmp rfl)) ?_
    refine JL.q rfl rfl rfl (QW.assign .const) ?_
    refine JL.nil ?_
    refine thenQ.n ?_
    refine J.ret ?_
    exact ⟨_, selP [.k] _, _, RetEv.two rfl (REv.tmp rfl (.refl _)) (REv.tmp rfl (.refl _)), rfl, sel_perm [.k] _, ⟨congrArg Res.ret (by rw [fullAV_of (q := ⟨lim, la, l⟩) (b := decide ((l.length : Int) = lim)) (f := 0) (by simp only [QT.full, hok, Bool.true_and]; exact Bool.eq_iff_iff.2 (by simp)) (QT.err_ok.2 hok)]; rfl), rfl⟩⟩

theorem rqfull_ok {fr : Bool} {q : QT} {ys : List AV} (hq : Qc fr q ys) (hw : q.wf) : Fn Try.prog 49 [.agg ys] (fullAV q) := by
  obtain ⟨lim, la, l⟩ := q
  subst hq
  obtain ⟨hl1, hl2, hev⟩ := hw
  have hw : (QT.mk lim la l).wf := ⟨hl1, hl2, hev⟩
  simp only at hl1 hl2 hev
  have hlen := hev.len
  refine AC.of_J Try.func49 rfl Try.ntmps49 rfl fun w0 A0 => ?_
  refine J.seq ?_
  refine J.region_lit ?_
  refine JL.box_agg (.tmp rfl) rfl fun b1 => ?_
  refine JL.q rfl rfl rfl (QW.assign .const) ?_
  refine JL.q rfl rfl rfl (QW.assign .const) ?_
  refine JL.nil ?_
  refine thenQ.n ?_
  refine J.seq ?_
  refine J.seq ?_
  refine J.region_lit ?_
  refine JL.q rfl rfl rfl (QW.load_box 0 ty61 (.tmp rfl) rfl rfl rfl) ?_
  refine JL.q rfl rfl rfl (QW.call gofn51 (.cons (.tmp rfl) .nil) (rqcheck_ok Qc.mk hw)) ?_
  refine JL.q rfl rfl rfl (QW.neq (.tmp rfl) .const) ?_
  refine JL.nil ?_
  refine thenQ.n ?_
  refine J.cond (.tmp rfl) (fun c1 => ?_) (fun c1 => ?_)
  · skip
    simp at c1
    obtain ⟨hno, he9⟩ := QT.err_no c1
    refine J.seq ?_
    refine J.region_lit ?_
    refine JL.q rfl rfl rfl (QW.assign .const) ?_
    refine JL.q rfl rfl rfl (QW.assign .const) ?_
    refine JL.nil ?_
    refine thenQ.n ?_
    refine J.ret ?_
    refine thenQ.r ?_
    exact ⟨_, selP [.k] _, _, RetEv.two rfl (REv.tmp rfl (.refl _)) (REv.tmp rfl (.refl _)), rfl, sel_perm [.k] _, ⟨congrArg Res.ret (fullAV_of (q := ⟨lim, la, l⟩) (b := false) (f := 9) (by simp [QT.full, hno]) he9).symm, rfl⟩⟩
  · skip
    simp at c1
    have hok := QT.err_ok.1 c1
    obtain ⟨o1, o2, o3, o4, o5, -⟩ := QT.ok_inv hok
    simp only at o1 o2 o3 o4 o5
    refine J.skip ?_
    refine thenQ.n ?_
    refine J.seq ?_
    refine J.region_lit ?_
    refine JL.q rfl rfl rfl (QW.field_ptr fo61_2 (.tmp rfl) rfl) ?_
    refine JL.q rfl rfl rfl (QW.load_box1 0 ty56 (.tmp rfl) rfl rfl) ?_
    refine JL.q rfl rfl rfl (by first | exact QW.len_slE sl56 (.tmp rfl) (EvT.css_length _ _) | exact QW.len_sl sl56 (.tmp rfl) | exact QW.len_nil sl56 (.tmp rfl)) ?_
    refine JL.q rfl rfl rfl (QW.field_ptr fo61_0 (.tmp rfl) rfl) ?_
    refine JL.q rfl rfl rfl (QW.load_box1 0 ty3 (.tmp rfl) rfl rfl) ?_
    refine JL.q rfl rfl rfl (QW.eql (.tmp rfl) (.tmp rfl)) ?_
    refine JL.q rfl rfl rfl (QW.assign (.tmp rfl)) ?_
    refine JL.q rfl rfl rfl (QW.assign .const) ?_
    refine JL.nil ?_
    refine thenQ.n ?_
    refine J.ret ?_
    exact ⟨_, selP [.k] _, _, RetEv.two rfl (REv.tmp rfl (.refl _)) (REv.tmp rfl (.refl _)), rfl, sel_perm [.k] _, ⟨congrArg Res.ret (by rw [fullAV_of (q := ⟨lim, la, l⟩) (b := decide ((l.length : Int) = lim)) (f := 0) (by simp only [QT.full, hok, Bool.true_and]; exact Bool.eq_iff_iff.2 (by simp)) (QT.err_ok.2 hok)]; rfl), rfl⟩⟩

theorem rqown_ok {fr : Bool} {q : QT} {ys : List AV} (hq : Qc fr q ys) (hw : q.wf) : AC Try.prog 90 [] [.agg ys] (RetR (QownR q)) := by
  obtain ⟨lim, la, l⟩ := q
  subst hq
  obtain ⟨hl1, hl2, hev⟩ := hw
  have hw : (QT.mk lim la l).wf := ⟨hl1, hl2, hev⟩
  simp only at hl1 hl2 hev
  have hlen := hev.len
  refine AC.of_J Try.func90 rfl Try.ntmps90 rfl fun w0 A0 => ?_
  refine J.seq ?_
  refine J.region_lit ?_
  refine JL.box_agg (.tmp rfl) rfl fun b1 => ?_
  refine JL.alloc z61 rfl rfl fun b2 => ?_
  refine JL.nil ?_
  refine thenQ.n ?_
  refine J.seq ?_
  refine J.region_lit ?_
  refine JL.q rfl rfl rfl (QW.field_ptr fo61_2 (.tmp rfl) rfl) ?_
  refine JL.q rfl rfl rfl (QW.load_box1 1 ty56 (.tmp rfl) rfl rfl) ?_
  refine JL.callRF [] gofn91 rfl Lent.nil (fun _ => (.cons (.tmp rfl) .nil)) (revents_own hev) (.inl rfl) fun x5 o5 h5 => ?_
  obtain ⟨v5, rfl, hs5, rfl⟩ := h5
  refine JL.q rfl rfl rfl (QW.field_ptr fo61_2 (.tmp rfl) rfl) ?_
  refine JL.store_box 1 ty56 (.tmp rfl) rfl (.tmp rfl) (by first | rfl | assumption) rfl rfl rfl rfl ?_
  refine JL.nil ?_
  refine thenQ.n ?_
  refine J.seq ?_
  refine J.region_lit ?_
  refine JL.q rfl rfl rfl (QW.load_box 1 ty61 (.tmp rfl) rfl rfl rfl) ?_
  first | refine JL.store_boxF 0 ty61 (.tmp rfl) rfl (.tmp rfl) (by first | rfl | assumption) (rfl) (rfl) rfl ?_ | refine JL.store_box 0 ty61 (.tmp rfl) rfl (.tmp rfl) (by first | rfl | assumption) rfl rfl rfl rfl ?_
  refine JL.nil ?_
  refine thenQ.n ?_
  refine J.ret ?_
  exact ⟨_, selP [.k, .k, .p] _, _, RetEv.one rfl (REv.cell 0 ty61 rfl rfl rfl rfl (.refl _)), rfl, sel_perm [.k, .k, .p] _, ⟨_, rfl, _, rfl, hs5, rfl⟩⟩

theorem rqpush_ok {fr fr2 : Bool} {q : QT} {e : EvT} {ys zs : List AV} (hq : Qc fr q ys) (he : Ec fr2 e zs) (hw : q.wf) (hwe : e.wf) : Fn Try.prog 46 [.agg ys, .agg zs] (pushAV q e) := by
  obtain ⟨lim, la, l⟩ := q
  subst hq
  obtain ⟨hl1, hl2, hev⟩ := hw
  have hw : (QT.mk lim la l).wf := ⟨hl1, hl2, hev⟩
  simp only at hl1 hl2 hev
  have hlen := hev.len
  obtain ⟨nm, v⟩ := e
  obtain ⟨hen, hev2⟩ := hwe
  have hwe : (EvT.mk nm v).wf := ⟨hen, hev2⟩
  simp only at hen hev2
  subst he
  refine AC.of_J Try.func46 rfl Try.ntmps46 rfl fun w0 A0 => ?_
  refine J.seq ?_
  refine J.region_lit ?_
  refine JL.box_agg (.tmp rfl) rfl fun b2 => ?_
  refine JL.box_agg (.tmp rfl) rfl fun b3 => ?_
  refine JL.alloc z61 rfl rfl fun b4 => ?_
  refine JL.q rfl rfl rfl (QW.assign .const) ?_
  refine JL.q rfl rfl rfl (QW.assign .const) ?_
  refine JL.nil ?_
  refine thenQ.n ?_
  refine J.seq ?_
  refine J.block ?_
  refine J.seq ?_
  refine J.region_lit ?_
  refine JL.q rfl rfl rfl (QW.load_box 2 ty61 (.tmp rfl) rfl rfl rfl) ?_
  refine JL.q rfl rfl rfl (QW.call gofn51 (.cons (.tmp rfl) .nil) (rqcheck_ok Qc.mk hw)) ?_
  refine JL.q rfl rfl rfl (QW.neq (.tmp rfl) .const) ?_
  refine JL.q rfl rfl rfl (QW.assign (.tmp rfl)) ?_
  refine JL.nil ?_
  refine thenQ.n ?_
  refine J.cond (.tmp rfl) (fun c1 => ?_) (fun c1 => ?_)
  · skip
    simp at c1
    obtain ⟨hno, he9⟩ := QT.err_no c1
    refine J.seq ?_
    refine J.region_lit ?_
    refine JL.q rfl rfl rfl (QW.build (idx := []) pl61 z61 rfl .nil rfl rfl rfl rfl) ?_
    first | refine JL.store_boxF 0 ty61 (.tmp rfl) rfl (.tmp rfl) (by first | rfl | assumption) (rfl) (rfl) rfl ?_ | refine JL.store_box 0 ty61 (.tmp rfl) rfl (.tmp rfl) (by first | rfl | assumption) rfl rfl rfl rfl ?_
    refine JL.q rfl rfl rfl (QW.assign .const) ?_
    refine JL.q rfl rfl rfl (QW.assign .const) ?_
    refine JL.nil ?_
    refine thenQ.n ?_
    refine J.ret ?_
    refine blkQ.r ?_
    refine thenQ.r ?_
    exact ⟨_, selP [.k, .k, .k] _, _, RetEv.three rfl (REv.cell 0 ty61 rfl rfl rfl rfl (.aggL (.cons (.refl _) (.cons (.refl _) (.cons (.nil true false eEv) .nil))))) (REv.tmp rfl (.refl _)) (REv.tmp rfl (.refl _)), rfl, sel_perm [.k, .k, .k] _, ⟨congrArg Res.ret (pushAV_of (q := ⟨lim, la, l⟩) (e := ⟨nm, v⟩) (q' := .nil) (n := 0) (f := 9) (by simp [QT.push, hno])).symm, rfl⟩⟩
  · skip
    simp at c1
    have hok := QT.err_ok.1 c1
    obtain ⟨o1, o2, o3, o4, o5, -⟩ := QT.ok_inv hok
    simp only at o1 o2 o3 o4 o5
    refine J.seq ?_
    refine J.region_lit ?_
    refine JL.q rfl rfl rfl (QW.field_ptr fo70_0 (.tmp rfl) rfl) ?_
    refine JL.q rfl rfl rfl (QW.load_box1 1 ty9 (.tmp rfl) rfl rfl) ?_
    refine JL.q rfl rfl rfl (QW.call gofn89 (.cons (.tmp rfl) .nil) (rname_ok _)) ?_
    refine JL.q rfl rfl rfl (QW.not (.tmp rfl)) ?_
    refine JL.q rfl rfl rfl (QW.assign (.tmp rfl)) ?_
    refine JL.nil ?_
    refine thenQ.n ?_
    refine J.cond (.tmp rfl) (fun c2 => ?_) (fun c2 => ?_)
    · skip
      simp at c2
      refine J.seq ?_
      refine J.region_lit ?_
      refine JL.q rfl rfl rfl (QW.build (idx := []) pl61 z61 rfl .nil rfl rfl rfl rfl) ?_
      first | refine JL.store_boxF 0 ty61 (.tmp rfl) rfl (.tmp rfl) (by first | rfl | assumption) (rfl) (rfl) rfl ?_ | refine JL.store_box 0 ty61 (.tmp rfl) rfl (.tmp rfl) (by first | rfl | assumption) rfl rfl rfl rfl ?_
      refine JL.q rfl rfl rfl (QW.assign .const) ?_
      refine JL.q rfl rfl rfl (QW.assign .const) ?_
      refine JL.nil ?_
      refine thenQ.n ?_
      refine J.ret ?_
      refine blkQ.r ?_
      refine thenQ.r ?_
      exact ⟨_, selP [.k, .k, .k] _, _, RetEv.three rfl (REv.cell 0 ty61 rfl rfl rfl rfl (.aggL (.cons (.refl _) (.cons (.refl _) (.cons (.nil true false eEv) .nil))))) (REv.tmp rfl (.refl _)) (REv.tmp rfl (.refl _)), rfl, sel_perm [.k, .k, .k] _, ⟨congrArg Res.ret (pushAV_of (q := ⟨lim, la, l⟩) (e := ⟨nm, v⟩) (q' := .nil) (n := 0) (f := 31) (by simp [QT.push, hok, evErr, c2])).symm, rfl⟩⟩
    · skip
      simp at c2
      refine J.skip ?_
      refine blkQ.n ?_
      refine thenQ.n ?_
      refine J.seq ?_
      refine J.region_lit ?_
      refine JL.q rfl rfl rfl (QW.field_ptr fo70_1 (.tmp rfl) rfl) ?_
      refine JL.q rfl rfl rfl (by first | exact QW.load_box 1 ty26 (.tmp rfl) rfl rfl rfl | exact QW.load_box 1 ty26 (.tmp rfl) rfl (take_at (V.cs_length _ _) rfl) (V.cs_length _ _)) ?_
      refine JL.q rfl rfl rfl (QW.call gofn25 (.cons (.tmp rfl) .nil) (rcheck_ok Vc.self hev2)) ?_
      refine JL.q rfl rfl rfl (QW.assign (.tmp rfl)) ?_
      refine JL.nil ?_
      refine thenQ.n ?_
      refine J.seq ?_
      refine J.block ?_
      refine J.seq ?_
      refine J.region_lit ?_
      refine JL.q rfl rfl rfl (QW.move (.tmp rfl)) ?_
      refine JL.q rfl rfl rfl (QW.neq (.tmp rfl) .const) ?_
      refine JL.q rfl rfl rfl (QW.assign (.tmp rfl)) ?_
      refine JL.nil ?_
      refine thenQ.n ?_
      refine J.cond (.tmp rfl) (fun c3 => ?_) (fun c3 => ?_)
      · skip
        simp at c3
        refine J.seq ?_
        refine J.region_lit ?_
        refine JL.q rfl rfl rfl (QW.build (idx := []) pl61 z61 rfl .nil rfl rfl rfl rfl) ?_
        refine JL.q rfl rfl rfl (QW.move (.tmp rfl)) ?_
        first | refine JL.store_boxF 0 ty61 (.tmp rfl) rfl (.tmp rfl) (by first | rfl | assumption) (rfl) (rfl) rfl ?_ | refine JL.store_box 0 ty61 (.tmp rfl) rfl (.tmp rfl) (by first | rfl | assumption) rfl rfl rfl rfl ?_
        refine JL.q rfl rfl rfl (QW.assign .const) ?_
        refine JL.q rfl rfl rfl (QW.assign (.tmp rfl)) ?_
        refine JL.nil ?_
        refine thenQ.n ?_
        refine J.ret ?_
        refine blkQ.r ?_
        refine thenQ.r ?_
        exact ⟨_, selP [.k, .k, .k] _, _, RetEv.three rfl (REv.cell 0 ty61 rfl rfl rfl rfl (.aggL (.cons (.refl _) (.cons (.refl _) (.cons (.nil true false eEv) .nil))))) (REv.tmp rfl (.refl _)) (REv.tmp rfl (.refl _)), rfl, sel_perm [.k, .k, .k] _, ⟨congrArg Res.ret (pushAV_of (q := ⟨lim, la, l⟩) (e := ⟨nm, v⟩) (q' := .nil) (n := 0) (f := v.err) (by simp [QT.push, hok, evErr, c2, c3])).symm, rfl⟩⟩
      · skip
        simp at c3
        refine J.seq ?_
        refine J.region_lit ?_
        refine JL.q rfl rfl rfl (QW.field_ptr fo61_2 (.tmp rfl) rfl) ?_
        refine JL.q rfl rfl rfl (QW.load_box1 2 ty56 (.tmp rfl) rfl rfl) ?_
        refine JL.q rfl rfl rfl (by first | exact QW.len_slE sl56 (.tmp rfl) (EvT.css_length _ _) | exact QW.len_sl sl56 (.tmp rfl) | exact QW.len_nil sl56 (.tmp rfl)) ?_
        refine JL.q rfl rfl rfl (QW.field_ptr fo61_0 (.tmp rfl) rfl) ?_
        refine JL.q rfl rfl rfl (QW.load_box1 2 ty3 (.tmp rfl) rfl rfl) ?_
        refine JL.q rfl rfl rfl (QW.geq (.tmp rfl) (.tmp rfl)) ?_
        refine JL.q rfl rfl rfl (QW.move (.tmp rfl)) ?_
        refine JL.g rfl rfl rfl rfl rfl (fun hg => (QW.field_ptr fo61_1 (.tmp rfl) rfl)) ?_
        refine JL.g rfl rfl rfl rfl rfl (fun hg => (QW.load_box1 2 ty3 (.when rfl hg) rfl rfl)) ?_
        refine JL.g rfl rfl rfl rfl rfl (fun hg => (QW.geq (.when rfl hg) .const)) ?_
        refine JL.q rfl rfl rfl (QW.pick_or (.tmp rfl) (.tmp rfl)) ?_
        refine JL.q rfl rfl rfl (QW.assign (.tmp rfl)) ?_
        refine JL.nil ?_
        refine thenQ.n ?_
        refine J.cond (.tmp rfl) (fun c4 => ?_) (fun c4 => ?_)
        · skip
          simp [EvT.css_length] at c4
          refine J.seq ?_
          refine J.region_lit ?_
          refine JL.q rfl rfl rfl (QW.build (idx := []) pl61 z61 rfl .nil rfl rfl rfl rfl) ?_
          first | refine JL.store_boxF 0 ty61 (.tmp rfl) rfl (.tmp rfl) (by first | rfl | assumption) (rfl) (rfl) rfl ?_ | refine JL.store_box 0 ty61 (.tmp rfl) rfl (.tmp rfl) (by first | rfl | assumption) rfl rfl rfl rfl ?_
          refine JL.q rfl rfl rfl (QW.assign .const) ?_
          refine JL.q rfl rfl rfl (QW.assign .const) ?_
          refine JL.nil ?_
          refine thenQ.n ?_
          refine J.ret ?_
          refine blkQ.r ?_
          refine thenQ.r ?_
          exact ⟨_, selP [.k, .k, .k] _, _, RetEv.three rfl (REv.cell 0 ty61 rfl rfl rfl rfl (.aggL (.cons (.refl _) (.cons (.refl _) (.cons (.nil true false eEv) .nil))))) (REv.tmp rfl (.refl _)) (REv.tmp rfl (.refl _)), rfl, sel_perm [.k, .k, .k] _, ⟨congrArg Res.ret (pushAV_of (q := ⟨lim, la, l⟩) (e := ⟨nm, v⟩) (q' := .nil) (n := 0) (f := 51) (by simp [QT.push, hok, evErr, c2, c3]; omega)).symm, rfl⟩⟩
        · skip
          simp [EvT.css_length] at c4
          refine J.skip ?_
          refine blkQ.n ?_
          refine thenQ.n ?_
          refine J.seq ?_
          refine J.region_lit ?_
          refine JL.q rfl rfl rfl (QW.load_box 2 ty61 (.tmp rfl) rfl rfl rfl) ?_
          refine JL.callRF [] gofn90 rfl Lent.nil (fun _ => (.cons (.tmp rfl) .nil)) (rqown_ok Qc.mk hw) (.inl rfl) fun x42 o42 h42 => ?_
          obtain ⟨v42, rfl, hs42, rfl⟩ := h42
          refine JL.alloc z61 rfl rfl fun b8 => ?_
          first | refine JL.store_boxF 0 ty61 (.tmp rfl) rfl (.tmp rfl) (by first | rfl | assumption) (rfl) (rfl) rfl ?_ | refine JL.store_box 0 ty61 (.tmp rfl) rfl (.tmp rfl) (by first | rfl | assumption) rfl rfl rfl rfl ?_
          refine JL.nil ?_
          refine thenQ.n ?_
          refine J.seq ?_
          refine J.region_tailK 5 mixed (by kernel_rfl) (by kernel_rfl) (by kernel_rfl) rfl ?_
          refine .cons [] rfl rfl rfl (.q rfl (QW.field_ptr fo61_2 (.tmp rfl) rfl)) ?_
          refine .cons [43] rfl rfl rfl (.q rfl (QW.load_box1 0 ty56 (.tmp rfl) rfl rfl)) ?_
          refine .cons [] rfl rfl rfl (.q rfl (by first | exact QW.load_box 2 ty70 (.tmp rfl) rfl rfl rfl | exact QW.load_box 2 ty70 (.tmp rfl) rfl (take_at (EvT.cs_length _ _) rfl) (EvT.cs_length _ _))) ?_
          refine .cons [45] rfl rfl rfl (.q rfl (QW.buildSlice (idx := [0]) (xs := [EvT.cs fr2 ⟨nm, v⟩]) sl56 el70 z70 rfl (.cons (.tmp rfl) .nil) rfl rfl rfl rfl rfl (by exact fill_one (EvT.cs_length _ _)) rfl (all_one (EvT.cs_length _ _)) rfl)) ?_
          refine .cons [46] rfl rfl rfl (.q rfl (QW.call gofn91 (.cons (Ev.le (.tmp rfl) (.slL (fun _ => rfl) (by rfl) (EvT.css_sz false [⟨nm, v⟩]) (EvT.css_le fr2 false (fun h => by cases h) [⟨nm, v⟩]))) .nil) (revents_ok (fr := false) (c := false) (l := [⟨nm, v⟩]) (EvT.wfs.one hwe)))) ?_
          refine .nil ?_
          refine JL.append 4 sl56 el70 rfl (.tmp rfl) rfl (srcA_sl sl56 (.tmp rfl)) (by rw [EvT.css_length, EvT.css_length]; simp; unfold reach; omega) rfl fun v48 => ?_
          refine JL.q rfl rfl rfl (QW.field_ptr fo61_2 (.tmp rfl) rfl) ?_
          refine JL.isSlice 4 rfl fun hs2 => ?_
          refine JL.store_box 0 ty56 (.tmp rfl) rfl (.tmp rfl) (by first | rfl | assumption) rfl rfl rfl rfl ?_
          refine JL.nil ?_
          refine thenQ.n ?_
          refine J.seq ?_
          refine J.region_lit ?_
          refine JL.q rfl rfl rfl (QW.field_ptr fo61_1 (.tmp rfl) rfl) ?_
          refine JL.q rfl rfl rfl (QW.load_box1 0 ty3 (.tmp rfl) rfl rfl) ?_
          refine JL.q rfl rfl rfl (QW.add (.tmp rfl) .const (by first | exact w64n (by first | rfl | omega | (simp; done)) (by omega) | exact w64 (by omega) | rfl)) ?_
          refine JL.q rfl rfl rfl (QW.field_ptr fo61_1 (.tmp rfl) rfl) ?_
          refine JL.store_box 0 ty3 (.tmp rfl) rfl (.tmp rfl) (by first | rfl | assumption) rfl rfl rfl rfl ?_
          refine JL.nil ?_
          refine thenQ.n ?_
          refine J.seq ?_
          refine J.closeArr 4 rfl (by rw [List.length_append, EvT.css_length]; simp [EvT.css]; unfold reach; omega) rfl (fun _ h => by cases h) ?_
          refine J.region_outK 4 1 (fun os_ ow_ x_ o_ => match os_ with | [] => (x_ = .c undef ∧ o_ = ow_.set 1 (.box b4 [.c (.int .i64 lim), .c (.int .i64 (la + 1)), .c v48])) | _ => False) mixed (by kernel_rfl) (by kernel_rfl) (by kernel_rfl) rfl ?_
          refine OutK.quiet [] rfl rfl rfl (fun qs_ qv_ ql_ => by
              rcases qs_ with _ | ⟨⟨y0, p0⟩, qs_⟩
              · skip
                exact (.q rfl (QW.load_box 0 ty61 (.tmp rfl) rfl rfl rfl))
              rcases qs_ with _ | ⟨⟨y1, p1⟩, qs_⟩
              · skip
                obtain ⟨hr0, _⟩ := qv_
                obtain ⟨rfl, rfl⟩ := hr0
                exact (.q rfl (QW.load_box 0 ty61 (.tmp rfl) rfl rfl rfl))
              exact absurd ql_ (by simp)) ?_
          refine OutK.quiet [] rfl rfl rfl (fun qs_ qv_ ql_ => (.q rfl (QW.field_ptr fo61_1 (.tmp rfl) rfl))) ?_
          refine OutK.quiet [55] rfl rfl rfl (fun qs_ qv_ ql_ => by
              rcases qs_ with _ | ⟨⟨y0, p0⟩, qs_⟩
              · skip
                exact (.q rfl (QW.load_box1 0 ty3 (.tmp rfl) rfl rfl))
              rcases qs_ with _ | ⟨⟨y1, p1⟩, qs_⟩
              · skip
                obtain ⟨hr0, _⟩ := qv_
                obtain ⟨rfl, rfl⟩ := hr0
                exact (.q rfl (QW.load_box1 0 ty3 (.tmp rfl) rfl rfl))
              exact absurd ql_ (by simp)) ?_
          refine OutK.store [54] rfl (fun qs_ ow x o h ql_ => by
              obtain rfl : qs_ = [] := List.length_eq_zero_iff.1 (by simpa using ql_)
              exact h.1) rfl rfl rfl (fun qs_ qv_ ql_ => by
              obtain rfl : qs_ = [] := List.length_eq_zero_iff.1 ql_
              exact LStep.toR rfl (by first | exact LStep.store_boxF 1 ty61 (.tmp rfl) rfl (.tmp rfl) (by first | rfl | assumption) (rfl) (rfl) rfl | exact LStep.store_box 1 ty61 (.tmp rfl) rfl (.tmp rfl) (by first | rfl | assumption) rfl rfl rfl rfl) ⟨rfl, rfl⟩) ?_
          refine .nil fun qs_ qv_ ql_ => ?_
          obtain ⟨⟨y0, p0⟩, qs_, rfl⟩ : ∃ p t, qs_ = p :: t := by (cases qs_ with | nil => simp at ql_ | cons p t => exact ⟨p, t, rfl⟩)
          obtain rfl : qs_ = [] := List.length_eq_zero_iff.1 (by simpa using ql_)
          obtain ⟨hr0, _⟩ := qv_
          obtain ⟨rfl, rfl⟩ := hr0
          refine JL.conv (by (try simp only [stepsO, List.map_cons, List.map_nil, valO, nthO, curO, mrg, List.reverse_cons, List.reverse_nil, List.nil_append, List.cons_append, List.append_nil, List.getElem?_cons_zero, List.getElem?_cons_succ, Option.map_some, Option.getD_some, List.set_cons_zero, List.set_cons_succ, AV.cellsOf, splice_zero, splice_succ, Nat.zero_add, Nat.reduceAdd]); rfl) ?_
          refine JL.q rfl rfl rfl (QW.assign (.tmp rfl)) ?_
          refine JL.q rfl rfl rfl (QW.assign .const) ?_
          refine JL.nil ?_
          refine thenQ.n ?_
          refine J.ret ?_
          exact ⟨_, selP [.k, .k, .k, .k] _, _, RetEv.three rfl (REv.cell 1 ty61 rfl rfl rfl rfl (.aggL (.cons (.refl _) (.cons (.refl _) (.cons (.fact (x := .sl true false eEv (EvT.css true l ++ EvT.css true [⟨nm, v⟩])) (.head _) (.refl _)) .nil))))) (REv.tmp rfl (.refl _)) (REv.tmp rfl (.refl _)), rfl, sel_perm [.k, .k, .k, .k] _, ⟨congrArg Res.ret (by rw [pushAV_of (q := ⟨lim, la, l⟩) (e := ⟨nm, v⟩) (q' := ⟨lim, la + 1, l ++ [⟨nm, v⟩]⟩) (n := la + 1) (f := 0) (by simp [QT.push, hok, evErr, c2, c3]; omega), ← EvT.css_append]; rfl), rfl⟩⟩

theorem rqown_rd {fr : Bool} {q : QT} {ys : List AV} (hq : Qc fr q ys) (hw : q.wf) : Fn Try.prog 90 [.agg ys] q.av :=
  Fn.close (rqown_ok hq hw) fun x o h => by
    obtain ⟨lim, la, l⟩ := q
    obtain ⟨v, rfl, _, rfl⟩ := h
    exact ⟨[(v, evsAV l)], fun w A hok hb p hp => Clos.arr (by rw [EvT.css_length]; exact hw.ev.1) w A (hok _ (by simp)) (fun b hb' => hb b (by simpa [fps_cons, fps_nil] using hb')) p hp, .aggL (.cons (.refl _) (.cons (.refl _) (.cons (.fact (x := evsAV l) (by simp) (.refl _)) .nil)))⟩

theorem rqtake_ok {fr : Bool} {q : QT} {ys : List AV} (hq : Qc fr q ys) (n : Int) (hw : q.wf) : Fn Try.prog 47 [.agg ys, .c (.int .i64 n)] (takeAV q n) := by
  obtain ⟨lim, la, l⟩ := q
  subst hq
  obtain ⟨hl1, hl2, hev⟩ := hw
  have hw : (QT.mk lim la l).wf := ⟨hl1, hl2, hev⟩
  simp only at hl1 hl2 hev
  have hlen := hev.len
  refine AC.of_J Try.func47 rfl Try.ntmps47 rfl fun w0 A0 => ?_
  refine J.seq ?_
  refine J.region_lit ?_
  refine JL.box_agg (.tmp rfl) rfl fun b2 => ?_
  refine JL.alloc z61 rfl rfl fun b4 => ?_
  refine JL.q rfl rfl rfl (QW.assign .const) ?_
  refine JL.q rfl rfl rfl (QW.assign .const) ?_
  refine JL.q rfl rfl rfl (QW.assign .const) ?_
  refine JL.nil ?_
  refine thenQ.n ?_
  refine J.seq ?_
  refine J.block ?_
  refine J.seq ?_
  refine J.region_lit ?_
  refine JL.q rfl rfl rfl (QW.load_box 1 ty61 (.tmp rfl) rfl rfl rfl) ?_
  refine JL.q rfl rfl rfl (QW.call gofn51 (.cons (.tmp rfl) .nil) (rqcheck_ok Qc.mk hw)) ?_
  refine JL.q rfl rfl rfl (QW.neq (.tmp rfl) .const) ?_
  refine JL.q rfl rfl rfl (QW.assign (.tmp rfl)) ?_
  refine JL.nil ?_
  refine thenQ.n ?_
  refine J.cond (.tmp rfl) (fun c1 => ?_) (fun c1 => ?_)
  · skip
    simp at c1
    obtain ⟨hno, he9⟩ := QT.err_no c1
    refine J.seq ?_
    refine J.region_lit ?_
    refine JL.q rfl rfl rfl (QW.build (idx := []) pl61 z61 rfl .nil rfl rfl rfl rfl) ?_
    first | refine JL.store_boxF 0 ty61 (.tmp rfl) rfl (.tmp rfl) (by first | rfl | assumption) (rfl) (rfl) rfl ?_ | refine JL.store_box 0 ty61 (.tmp rfl) rfl (.tmp rfl) (by first | rfl | assumption) rfl rfl rfl rfl ?_
    refine JL.q rfl rfl rfl (QW.assign .const) ?_
    refine JL.q rfl rfl rfl (QW.assign .const) ?_
    refine JL.q rfl rfl rfl (QW.assign .const) ?_
    refine JL.nil ?_
    refine thenQ.n ?_
    refine J.ret ?_
    refine blkQ.r ?_
    refine thenQ.r ?_
    exact ⟨_, selP [.k, .k] _, _, RetEv.four rfl (REv.cell 0 ty61 rfl rfl rfl rfl (.aggL (.cons (.refl _) (.cons (.refl _) (.cons (.nil true false eEv) .nil))))) (REv.tmp rfl (.nil true false eEv)) (REv.tmp rfl (.refl _)) (REv.tmp rfl (.refl _)), rfl, sel_perm [.k, .k] _, ⟨congrArg Res.ret (takeAV_of (q := ⟨lim, la, l⟩) (n := n) (q' := .nil) (l := []) (m := 0) (f := 9) (by simp [QT.take, hno])).symm, rfl⟩⟩
  · skip
    simp at c1
    have hok := QT.err_ok.1 c1
    obtain ⟨o1, o2, o3, o4, o5, -⟩ := QT.ok_inv hok
    simp only at o1 o2 o3 o4 o5
    refine J.seq ?_
    refine J.region_lit ?_
    refine JL.q rfl rfl rfl (QW.move (.tmp rfl)) ?_
    refine JL.q rfl rfl rfl (QW.lss (.tmp rfl) .const) ?_
    refine JL.q rfl rfl rfl (QW.assign (.tmp rfl)) ?_
    refine JL.nil ?_
    refine thenQ.n ?_
    refine J.cond (.tmp rfl) (fun c2 => ?_) (fun c2 => ?_)
    · skip
      simp at c2
      refine J.seq ?_
      refine J.region_lit ?_
      refine JL.q rfl rfl rfl (QW.build (idx := []) pl61 z61 rfl .nil rfl rfl rfl rfl) ?_
      first | refine JL.store_boxF 0 ty61 (.tmp rfl) rfl (.tmp rfl) (by first | rfl | assumption) (rfl) (rfl) rfl ?_ | refine JL.store_box 0 ty61 (.tmp rfl) rfl (.tmp rfl) (by first | rfl | assumption) rfl rfl rfl rfl ?_
      refine JL.q rfl rfl rfl (QW.assign .const) ?_
      refine JL.q rfl rfl rfl (QW.assign .const) ?_
      refine JL.q rfl rfl rfl (QW.assign .const) ?_
      refine JL.nil ?_
      refine thenQ.n ?_
      refine J.ret ?_
      refine blkQ.r ?_
      refine thenQ.r ?_
      exact ⟨_, selP [.k, .k] _, _, RetEv.four rfl (REv.cell 0 ty61 rfl rfl rfl rfl (.aggL (.cons (.refl _) (.cons (.refl _) (.cons (.nil true false eEv) .nil))))) (REv.tmp rfl (.nil true false eEv)) (REv.tmp rfl (.refl _)) (REv.tmp rfl (.refl _)), rfl, sel_perm [.k, .k] _, ⟨congrArg Res.ret (takeAV_of (q := ⟨lim, la, l⟩) (n := n) (q' := .nil) (l := []) (m := 0) (f := 4) (by simp [QT.take, hok]; omega)).symm, rfl⟩⟩
    · skip
      simp at c2
      have hcut : (min n (l.length : Int)) = (QT.cut ⟨lim, la, l⟩ n : Nat) := by (simp only [QT.cut]; omega)
      refine J.skip ?_
      refine blkQ.n ?_
      refine thenQ.n ?_
      refine J.seq ?_
      refine J.region_lit ?_
      refine JL.q rfl rfl rfl (QW.move (.tmp rfl)) ?_
      refine JL.q rfl rfl rfl (QW.field_ptr fo61_2 (.tmp rfl) rfl) ?_
      refine JL.q rfl rfl rfl (QW.load_box1 1 ty56 (.tmp rfl) rfl rfl) ?_
      refine JL.q rfl rfl rfl (by first | exact QW.len_slE sl56 (.tmp rfl) (EvT.css_length _ _) | exact QW.len_sl sl56 (.tmp rfl) | exact QW.len_nil sl56 (.tmp rfl)) ?_
      refine JL.q rfl rfl rfl (QW.min2 (.tmp rfl) (.tmp rfl)) ?_
      refine JL.q rfl rfl rfl (QW.assign (.tmp rfl)) ?_
      refine JL.nil ?_
      refine thenQ.n ?_
      refine J.seq ?_
      refine J.region_lit ?_
      refine JL.q rfl rfl rfl (QW.load_box 1 ty61 (.tmp rfl) rfl rfl rfl) ?_
      refine JL.q rfl rfl rfl (QW.call gofn90 (.cons (.tmp rfl) .nil) (rqown_rd Qc.mk hw)) ?_
      refine JL.alloc z61 rfl rfl fun b8 => ?_
      first | refine JL.store_boxF 0 ty61 (.tmp rfl) rfl (.tmp rfl) (by first | rfl | assumption) (rfl) (rfl) rfl ?_ | refine JL.store_box 0 ty61 (.tmp rfl) rfl (.tmp rfl) (by first | rfl | assumption) rfl rfl rfl rfl ?_
      refine JL.nil ?_
      refine thenQ.n ?_
      refine J.seq ?_
      refine J.region_lit ?_
      refine JL.q rfl rfl rfl (QW.field_ptr fo61_2 (.tmp rfl) rfl) ?_
      refine JL.q rfl rfl rfl (QW.load_box1 2 ty56 (.tmp rfl) rfl rfl) ?_
      refine JL.q rfl rfl rfl (QW.move (.tmp rfl)) ?_
      refine JL.q rfl rfl rfl (QW.slice_L sl56 ty70 rfl (.tmp rfl) (Ev.le (.tmp rfl) (Le.intE (show _ = ((QT.cut ⟨lim, la, l⟩ n : Nat) : Int) from by simp only [QT.cut]; first | omega | (split <;> omega)))) rfl (by rw [EvT.css_length]; exact Nat.min_le_right _ _)) ?_
      refine JL.q rfl rfl rfl (QW.call gofn91 (.cons (Ev.le (.tmp rfl) (by rw [EvT.css_drop]; exact .refl _)) .nil) (revents_ok (fr := fr) (c := false) (hev.drop (QT.cut ⟨lim, la, l⟩ n)))) ?_
      refine JL.q rfl rfl rfl (QW.field_ptr fo61_2 (.tmp rfl) rfl) ?_
      refine JL.store_box 0 ty56 (.tmp rfl) rfl (.tmp rfl) (by first | rfl | assumption) rfl rfl rfl rfl ?_
      refine JL.nil ?_
      refine thenQ.n ?_
      refine J.seq ?_
      refine J.seq ?_
      refine J.region_lit ?_
      refine JL.q rfl rfl rfl (QW.move (.tmp rfl)) ?_
      refine JL.q rfl rfl rfl (QW.eql (.tmp rfl) .const) ?_
      refine JL.nil ?_
      refine thenQ.n ?_
      refine J.cond (.tmp rfl) (fun c3 => ?_) (fun c3 => ?_)
      · skip
        skip
        refine J.seq ?_
        refine J.region_lit ?_
        refine JL.q rfl rfl rfl (QW.load_box 0 ty61 (.tmp rfl) rfl rfl rfl) ?_
        first | refine JL.store_boxF 1 ty61 (.tmp rfl) rfl (.tmp rfl) (by first | rfl | assumption) (rfl) (rfl) rfl ?_ | refine JL.store_box 1 ty61 (.tmp rfl) rfl (.tmp rfl) (by first | rfl | assumption) rfl rfl rfl rfl ?_
        refine JL.q rfl rfl rfl (QW.assign .const) ?_
        refine JL.q rfl rfl rfl (QW.assign .const) ?_
        refine JL.q rfl rfl rfl (QW.assign .const) ?_
        refine JL.nil ?_
        refine thenQ.n ?_
        refine J.ret ?_
        refine thenQ.r ?_
        have hc : QT.cut ⟨lim, la, l⟩ n = 0 := by (simp at c3; simp only [QT.cut] at *; first | omega | (split at c3 <;> omega))
        exact ⟨_, selP [.k, .k, .k] _, _, RetEv.four rfl (REv.cell 1 ty61 rfl rfl rfl rfl (.refl _)) (REv.tmp rfl (.nil true false eEv)) (REv.tmp rfl (.refl _)) (REv.tmp rfl (.refl _)), rfl, sel_perm [.k, .k, .k] _, ⟨congrArg Res.ret (takeAV_of (q := ⟨lim, la, l⟩) (n := n) (q' := ⟨lim, la, l.drop (QT.cut ⟨lim, la, l⟩ n)⟩) (l := []) (m := 0) (f := 0) (by simp [QT.take, hok, hc]; omega)).symm, rfl⟩⟩
      · skip
        skip
        refine J.skip ?_
        refine thenQ.n ?_
        refine J.seq ?_
        refine J.region_outK 15 1 (fun os_ ow_ x_ o_ => match os_ with | [] => (x_ = .c undef ∧ o_ = ow_.set 1 (.box b4 [.c (.int .i64 lim), .c (.int .i64 la), evsAV (l.drop (QT.cut ⟨lim, la, l⟩ n))])) | _ => False) mixed (by kernel_rfl) (by kernel_rfl) (by kernel_rfl) rfl ?_
        refine OutK.quiet [] rfl rfl rfl (fun qs_ qv_ ql_ => by
            rcases qs_ with _ | ⟨⟨y0, p0⟩, qs_⟩
            · skip
              exact (.q rfl (QW.load_box 0 ty61 (.tmp rfl) rfl rfl rfl))
            rcases qs_ with _ | ⟨⟨y1, p1⟩, qs_⟩
            · skip
              obtain ⟨hr0, _⟩ := qv_
              obtain ⟨rfl, rfl⟩ := hr0
              exact (.q rfl (QW.load_box 0 ty61 (.tmp rfl) rfl rfl rfl))
            exact absurd ql_ (by simp)) ?_
        refine OutK.quiet [] rfl rfl rfl (fun qs_ qv_ ql_ => (.q rfl (QW.field_ptr fo61_2 (.tmp rfl) rfl))) ?_
        refine OutK.quiet [35] rfl rfl rfl (fun qs_ qv_ ql_ => by
            rcases qs_ with _ | ⟨⟨y0, p0⟩, qs_⟩
            · skip
              exact (.q rfl (QW.load_box1 2 ty56 (.tmp rfl) rfl rfl))
            rcases qs_ with _ | ⟨⟨y1, p1⟩, qs_⟩
            · skip
              obtain ⟨hr0, _⟩ := qv_
              obtain ⟨rfl, rfl⟩ := hr0
              exact (.q rfl (QW.load_box1 2 ty56 (.tmp rfl) rfl rfl))
            exact absurd ql_ (by simp)) ?_
        refine OutK.quiet [] rfl rfl rfl (fun qs_ qv_ ql_ => (.q rfl (QW.move (.tmp rfl)))) ?_
        refine OutK.quiet [36, 37] rfl rfl rfl (fun qs_ qv_ ql_ => (.q rfl (QW.slice_H sl56 ty70 rfl (.tmp rfl) (Ev.le (.tmp rfl) (Le.intE (show _ = ((QT.cut ⟨lim, la, l⟩ n : Nat) : Int) from by simp only [QT.cut]; first | omega | (split <;> omega)))) rfl (by rw [EvT.css_length]; exact Nat.min_le_right _ _)))) ?_
        refine OutK.quiet [38] rfl rfl rfl (fun qs_ qv_ ql_ => (.q rfl (QW.call gofn91 (.cons (Ev.le (.tmp rfl) (by rw [EvT.css_take]; exact .refl _)) .nil) (revents_ok (fr := fr) (c := false) (hev.take (QT.cut ⟨lim, la, l⟩ n)))))) ?_
        refine OutK.quiet [] rfl rfl rfl (fun qs_ qv_ ql_ => (.q rfl (QW.field_ptr fo61_1 (.tmp rfl) rfl))) ?_
        refine OutK.quiet [40] rfl rfl rfl (fun qs_ qv_ ql_ => by
            rcases qs_ with _ | ⟨⟨y0, p0⟩, qs_⟩
            · skip
              exact (.q rfl (QW.load_box1 2 ty3 (.tmp rfl) rfl rfl))
            rcases qs_ with _ | ⟨⟨y1, p1⟩, qs_⟩
            · skip
              obtain ⟨hr0, _⟩ := qv_
              obtain ⟨rfl, rfl⟩ := hr0
              exact (.q rfl (QW.load_box1 2 ty3 (.tmp rfl) rfl rfl))
            exact absurd ql_ (by simp)) ?_
        refine OutK.quiet [] rfl rfl rfl (fun qs_ qv_ ql_ => (.q rfl (QW.field_ptr fo61_2 (.tmp rfl) rfl))) ?_
        refine OutK.quiet [42] rfl rfl rfl (fun qs_ qv_ ql_ => by
            rcases qs_ with _ | ⟨⟨y0, p0⟩, qs_⟩
            · skip
              exact (.q rfl (QW.load_box1 2 ty56 (.tmp rfl) rfl rfl))
            rcases qs_ with _ | ⟨⟨y1, p1⟩, qs_⟩
            · skip
              obtain ⟨hr0, _⟩ := qv_
              obtain ⟨rfl, rfl⟩ := hr0
              exact (.q rfl (QW.load_box1 2 ty56 (.tmp rfl) rfl rfl))
            exact absurd ql_ (by simp)) ?_
        refine OutK.quiet [43] rfl rfl rfl (fun qs_ qv_ ql_ => (.q rfl (by first | exact QW.len_slE sl56 (.tmp rfl) (EvT.css_length _ _) | exact QW.len_sl sl56 (.tmp rfl) | exact QW.len_nil sl56 (.tmp rfl)))) ?_
        refine OutK.quiet [41, 44] rfl rfl rfl (fun qs_ qv_ ql_ => (.q rfl (QW.sub (.tmp rfl) (.tmp rfl) (by first | exact w64n (by first | rfl | omega | (simp; done)) (by omega) | exact w64 (by omega) | rfl)))) ?_
        refine OutK.quiet [45] rfl rfl rfl (fun qs_ qv_ ql_ => (.q rfl (QW.add (.tmp rfl) .const (by first | exact w64n (by first | rfl | omega | (simp; done)) (by omega) | exact w64 (by omega) | rfl)))) ?_
        refine OutK.store [34] rfl (fun qs_ ow x o h ql_ => by
            obtain rfl : qs_ = [] := List.length_eq_zero_iff.1 (by simpa using ql_)
            exact h.1) rfl rfl rfl (fun qs_ qv_ ql_ => by
            obtain rfl : qs_ = [] := List.length_eq_zero_iff.1 ql_
            exact LStep.toR rfl (by first | exact LStep.store_boxF 1 ty61 (.tmp rfl) rfl (.tmp rfl) (by first | rfl | assumption) (rfl) (rfl) rfl | exact LStep.store_box 1 ty61 (.tmp rfl) rfl (.tmp rfl) (by first | rfl | assumption) rfl rfl rfl rfl) ⟨rfl, rfl⟩) ?_
        refine OutK.quiet [39] rfl rfl rfl (fun qs_ qv_ ql_ => (.q rfl (QW.assign (.tmp rfl)))) ?_
        refine .nil fun qs_ qv_ ql_ => ?_
        obtain ⟨⟨y0, p0⟩, qs_, rfl⟩ : ∃ p t, qs_ = p :: t := by (cases qs_ with | nil => simp at ql_ | cons p t => exact ⟨p, t, rfl⟩)
        obtain rfl : qs_ = [] := List.length_eq_zero_iff.1 (by simpa using ql_)
        obtain ⟨hr0, _⟩ := qv_
        obtain ⟨rfl, rfl⟩ := hr0
        refine JL.conv (by (try simp only [stepsO, List.map_cons, List.map_nil, valO, nthO, curO, mrg, List.reverse_cons, List.reverse_nil, List.nil_append, List.cons_append, List.append_nil, List.getElem?_cons_zero, List.getElem?_cons_succ, Option.map_some, Option.getD_some, List.set_cons_zero, List.set_cons_succ, AV.cellsOf, splice_zero, splice_succ, Nat.zero_add, Nat.reduceAdd]); rfl) ?_
        refine JL.q rfl rfl rfl (QW.assign (.tmp rfl)) ?_
        refine JL.q rfl rfl rfl (QW.assign .const) ?_
        refine JL.nil ?_
        refine thenQ.n ?_
        refine J.ret ?_
        have hc : 0 < QT.cut ⟨lim, la, l⟩ n := by (simp at c3; simp only [QT.cut] at *; first | omega | (split at c3 <;> omega))
        exact ⟨_, selP [.k, .k, .k] _, _, RetEv.four rfl (REv.cell 1 ty61 rfl rfl rfl rfl (.refl _)) (REv.tmp rfl (.refl _)) (REv.tmp rfl (.refl _)) (REv.tmp rfl (.refl _)), rfl, sel_perm [.k, .k, .k] _, ⟨congrArg Res.ret (takeAV_of (q := ⟨lim, la, l⟩) (n := n) (q' := ⟨lim, la, l.drop (QT.cut ⟨lim, la, l⟩ n)⟩) (l := l.take (QT.cut ⟨lim, la, l⟩ n)) (m := la - (l.length : Int) + 1) (f := 0) (by simp [QT.take, hok, hc]; omega)).symm, rfl⟩⟩

end Go.Proofs.Ytkiankpmkglhcaa.J
