/- Texts of this proof, laid together. -/
import Derived.Test.YtkiankpmkglhcaaX5ROutboxOwn
/- Walks: pushing and taking, by the program and by the page. -/
namespace Go.Proofs.Ytkiankpmkglhcaa.J
open Go Go.RowKit
set_option linter.unusedVariables false
set_option linter.unusedSimpArgs false
set_option maxRecDepth 10000
set_option maxHeartbeats 4000000

theorem mix_le {F : List (Value × AV)} {fr fr2 : Bool} {l : List EvT} {e : EvT} : Le F (.sl true false eEv (EvT.css fr l ++ [e.cs fr2])) (.sl false false eEv (EvT.css false (l ++ [e]))) := by
  rw [EvT.css_append]
  refine .slL (fun h => by cases h) (by simp [EvT.css]) (fun y hy => ?_) ?_
  · rcases List.mem_append.1 hy with hy | hy
    · exact EvT.css_sz false l y hy
    · exact EvT.css_sz false [e] y hy
  · rw [List.flatten_append, List.flatten_append]
    refine LeL.append (EvT.css_le fr false (fun h => by cases h) l) ?_
    simpa [EvT.css] using EvT.cs_le fr2 false (fun h => by cases h) e

theorem qpush_ok {fr fr2 : Bool} {q : QT} {e : EvT} {ys zs : List AV} (hq : Qc fr q ys) (he : Ec fr2 e zs) (hw : q.wf) (hwe : e.wf) : Fn Try.prog 42 [.agg ys, .agg zs] (pushAV q e) := by
  obtain ⟨lim, la, l⟩ := q
  subst hq
  obtain ⟨hl1, hl2, hev⟩ := hw
  have hw : (QT.mk lim la l).wf := ⟨hl1, hl2, hev⟩
  simp only at hl1 hl2 hev
  have hlen := hev.len
  subst he
  refine AC.of_J Try.func42 rfl Try.ntmps42 rfl fun w0 A0 => ?_
  refine J.seq ?_
  refine J.region_lit ?_
  refine JL.box_agg (.tmp rfl) rfl fun b2 => ?_
  refine JL.box_agg (.tmp rfl) rfl fun b3 => ?_
  refine JL.alloc z58 rfl rfl fun b4 => ?_
  refine JL.q rfl rfl rfl (QW.assign .const) ?_
  refine JL.q rfl rfl rfl (QW.assign .const) ?_
  refine JL.nil ?_
  refine thenQ.n ?_
  refine J.seq ?_
  refine J.seq ?_
  refine J.region_lit ?_
  refine JL.q rfl rfl rfl (QW.load_box 2 ty58 (.tmp rfl) rfl rfl rfl) ?_
  refine JL.q rfl rfl rfl (QW.call gofn50 (.cons (.tmp rfl) .nil) (qcheck_ok Qc.mk hw)) ?_
  refine JL.q rfl rfl rfl (QW.assign (.tmp rfl)) ?_
  refine JL.nil ?_
  refine thenQ.n ?_
  refine J.seq ?_
  refine J.region_lit ?_
  refine JL.q rfl rfl rfl (QW.move (.tmp rfl)) ?_
  refine JL.q rfl rfl rfl (QW.neq (.tmp rfl) .const) ?_
  refine JL.nil ?_
  refine thenQ.n ?_
  refine J.cond (.tmp rfl) (fun c1 => ?_) (fun c1 => ?_)
  · skip
    simp at c1
    obtain ⟨hno, he9⟩ := QT.err_no c1
    refine J.seq ?_
    refine J.region_lit ?_
    refine JL.q rfl rfl rfl (QW.build (idx := []) pl58 z58 rfl .nil rfl rfl rfl rfl) ?_
    refine JL.q rfl rfl rfl (QW.move (.tmp rfl)) ?_
    first | refine JL.store_boxF 0 ty58 (.tmp rfl) rfl (.tmp rfl) (by first | rfl | assumption) (rfl) (rfl) rfl ?_ | refine JL.store_box 0 ty58 (.tmp rfl) rfl (.tmp rfl) (by first | rfl | assumption) rfl rfl rfl rfl ?_
    refine JL.q rfl rfl rfl (QW.assign .const) ?_
    refine JL.q rfl rfl rfl (QW.assign (.tmp rfl)) ?_
    refine JL.nil ?_
    refine thenQ.n ?_
    refine J.ret ?_
    refine thenQ.r ?_
    exact ⟨_, selP [.k, .k, .k] _, _, RetEv.three rfl (REv.cell 0 ty58 rfl rfl rfl rfl (.aggL (.cons (.refl _) (.cons (.refl _) (.cons (.nil true false eEv) .nil))))) (REv.tmp rfl (.refl _)) (REv.tmp rfl (.refl _)), rfl, sel_perm [.k, .k, .k] _, ⟨congrArg Res.ret (pushAV_of (q := ⟨lim, la, l⟩) (e := e) (q' := .nil) (n := 0) (f := (QT.mk lim la l).err) (by simp [QT.push, hno, he9])).symm, rfl⟩⟩
  · skip
    simp at c1
    have hok := QT.err_ok.1 c1
    obtain ⟨o1, o2, o3, o4, o5, -⟩ := QT.ok_inv hok
    simp only at o1 o2 o3 o4 o5
    refine J.skip ?_
    refine thenQ.n ?_
    refine J.seq ?_
    refine J.seq ?_
    refine J.region_lit ?_
    refine JL.q rfl rfl rfl (by first | exact QW.load_box 1 ty70 (.tmp rfl) rfl rfl rfl | exact QW.load_box 1 ty70 (.tmp rfl) rfl (take_at (EvT.cs_length _ _) rfl) (EvT.cs_length _ _)) ?_
    refine JL.q rfl rfl rfl (QW.call gofn84 (.cons (.tmp rfl) .nil) (event_ok Ec.self hwe)) ?_
    refine JL.q rfl rfl rfl (QW.assign (.tmp rfl)) ?_
    refine JL.nil ?_
    refine thenQ.n ?_
    refine J.seq ?_
    refine J.region_lit ?_
    refine JL.q rfl rfl rfl (QW.move (.tmp rfl)) ?_
    refine JL.q rfl rfl rfl (QW.neq (.tmp rfl) .const) ?_
    refine JL.nil ?_
    refine thenQ.n ?_
    refine J.cond (.tmp rfl) (fun c2 => ?_) (fun c2 => ?_)
    · skip
      simp at c2
      refine J.seq ?_
      refine J.region_lit ?_
      refine JL.q rfl rfl rfl (QW.build (idx := []) pl58 z58 rfl .nil rfl rfl rfl rfl) ?_
      refine JL.q rfl rfl rfl (QW.move (.tmp rfl)) ?_
      first | refine JL.store_boxF 0 ty58 (.tmp rfl) rfl (.tmp rfl) (by first | rfl | assumption) (rfl) (rfl) rfl ?_ | refine JL.store_box 0 ty58 (.tmp rfl) rfl (.tmp rfl) (by first | rfl | assumption) rfl rfl rfl rfl ?_
      refine JL.q rfl rfl rfl (QW.assign .const) ?_
      refine JL.q rfl rfl rfl (QW.assign (.tmp rfl)) ?_
      refine JL.nil ?_
      refine thenQ.n ?_
      refine J.ret ?_
      refine thenQ.r ?_
      exact ⟨_, selP [.k, .k, .k] _, _, RetEv.three rfl (REv.cell 0 ty58 rfl rfl rfl rfl (.aggL (.cons (.refl _) (.cons (.refl _) (.cons (.nil true false eEv) .nil))))) (REv.tmp rfl (.refl _)) (REv.tmp rfl (.refl _)), rfl, sel_perm [.k, .k, .k] _, ⟨congrArg Res.ret (pushAV_of (q := ⟨lim, la, l⟩) (e := e) (q' := .nil) (n := 0) (f := evErr e) (by simp [QT.push, hok, c2])).symm, rfl⟩⟩
    · skip
      simp at c2
      refine J.skip ?_
      refine thenQ.n ?_
      refine J.seq ?_
      refine J.seq ?_
      refine J.region_lit ?_
      refine JL.q rfl rfl rfl (QW.field_ptr fo58_2 (.tmp rfl) rfl) ?_
      refine JL.q rfl rfl rfl (QW.load_box1 2 ty56 (.tmp rfl) rfl rfl) ?_
      refine JL.q rfl rfl rfl (by first | exact QW.len_slE sl56 (.tmp rfl) (EvT.css_length _ _) | exact QW.len_sl sl56 (.tmp rfl) | exact QW.len_nil sl56 (.tmp rfl)) ?_
      refine JL.q rfl rfl rfl (QW.field_ptr fo58_0 (.tmp rfl) rfl) ?_
      refine JL.q rfl rfl rfl (QW.load_box1 2 ty3 (.tmp rfl) rfl rfl) ?_
      refine JL.q rfl rfl rfl (QW.eql (.tmp rfl) (.tmp rfl)) ?_
      refine JL.q rfl rfl rfl (QW.move (.tmp rfl)) ?_
      refine JL.g rfl rfl rfl rfl rfl (fun hg => (QW.field_ptr fo58_1 (.tmp rfl) rfl)) ?_
      refine JL.g rfl rfl rfl rfl rfl (fun hg => (QW.load_box1 2 ty3 (.when rfl hg) rfl rfl)) ?_
      refine JL.g rfl rfl rfl rfl rfl (fun hg => (QW.eql (.when rfl hg) .const)) ?_
      refine JL.q rfl rfl rfl (QW.pick_or (.tmp rfl) (.tmp rfl)) ?_
      refine JL.nil ?_
      refine thenQ.n ?_
      refine J.cond (.tmp rfl) (fun c3 => ?_) (fun c3 => ?_)
      · skip
        simp [EvT.css_length] at c3
        refine J.seq ?_
        refine J.region_lit ?_
        refine JL.q rfl rfl rfl (QW.build (idx := []) pl58 z58 rfl .nil rfl rfl rfl rfl) ?_
        first | refine JL.store_boxF 0 ty58 (.tmp rfl) rfl (.tmp rfl) (by first | rfl | assumption) (rfl) (rfl) rfl ?_ | refine JL.store_box 0 ty58 (.tmp rfl) rfl (.tmp rfl) (by first | rfl | assumption) rfl rfl rfl rfl ?_
        refine JL.q rfl rfl rfl (QW.assign .const) ?_
        refine JL.q rfl rfl rfl (QW.assign .const) ?_
        refine JL.nil ?_
        refine thenQ.n ?_
        refine J.ret ?_
        refine thenQ.r ?_
        exact ⟨_, selP [.k, .k, .k] _, _, RetEv.three rfl (REv.cell 0 ty58 rfl rfl rfl rfl (.aggL (.cons (.refl _) (.cons (.refl _) (.cons (.nil true false eEv) .nil))))) (REv.tmp rfl (.refl _)) (REv.tmp rfl (.refl _)), rfl, sel_perm [.k, .k, .k] _, ⟨congrArg Res.ret (pushAV_of (q := ⟨lim, la, l⟩) (e := e) (q' := .nil) (n := 0) (f := 51) (by simp [QT.push, hok, c2]; omega)).symm, rfl⟩⟩
      · skip
        simp [EvT.css_length] at c3
        refine J.skip ?_
        refine thenQ.n ?_
        refine J.seq ?_
        refine J.region_tailK 5 mixed (by kernel_rfl) (by kernel_rfl) (by kernel_rfl) rfl ?_
        refine .cons [] rfl rfl rfl (.q rfl (QW.field_ptr fo58_2 (.tmp rfl) rfl)) ?_
        refine .cons [33] rfl rfl rfl (.q rfl (QW.load_box1 2 ty56 (.tmp rfl) rfl rfl)) ?_
        refine .cons [34] rfl rfl rfl (.q rfl (QW.call gofn86 (.cons (.tmp rfl) .nil) (clipEv_ok _))) ?_
        refine .cons [] rfl rfl rfl (.q rfl (by first | exact QW.load_box 1 ty70 (.tmp rfl) rfl rfl rfl | exact QW.load_box 1 ty70 (.tmp rfl) rfl (take_at (EvT.cs_length _ _) rfl) (EvT.cs_length _ _))) ?_
        refine .cons [36] rfl rfl rfl (.q rfl (QW.buildSlice (idx := [0]) (xs := [e.cs fr2]) sl56 el70 z70 rfl (.cons (.tmp rfl) .nil) rfl rfl rfl rfl rfl (by exact fill_one (EvT.cs_length _ _)) rfl (all_one (EvT.cs_length _ _)) rfl)) ?_
        refine .nil ?_
        refine JL.q rfl rfl rfl (QW.appendQ sl56 el70 rfl (.tmp rfl) (srcA_sl sl56 (.tmp rfl)) (by first | decide | (simp; done) | omega) (by rw [EvT.css_length]; simp; unfold reach; omega)) ?_
        refine JL.q rfl rfl rfl (QW.call gofn85 (.cons (Ev.le (.tmp rfl) (mix_le)) .nil) (qclone_ok (fr := false) (c := false) (l := l ++ [e]) (hev.snoc hwe (by omega)))) ?_
        refine JL.q rfl rfl rfl (QW.field_ptr fo58_2 (.tmp rfl) rfl) ?_
        refine JL.store_box 2 ty56 (.tmp rfl) rfl (.tmp rfl) (by first | rfl | assumption) rfl rfl rfl rfl ?_
        refine JL.nil ?_
        refine thenQ.n ?_
        refine J.seq ?_
        refine J.region_lit ?_
        refine JL.q rfl rfl rfl (QW.field_ptr fo58_1 (.tmp rfl) rfl) ?_
        refine JL.q rfl rfl rfl (QW.load_box1 2 ty3 (.tmp rfl) rfl rfl) ?_
        refine JL.q rfl rfl rfl (QW.add (.tmp rfl) .const (by first | exact w64n (by first | rfl | omega | (simp; done)) (by omega) | exact w64 (by omega) | rfl)) ?_
        refine JL.q rfl rfl rfl (QW.field_ptr fo58_1 (.tmp rfl) rfl) ?_
        refine JL.store_box 2 ty3 (.tmp rfl) rfl (.tmp rfl) (by first | rfl | assumption) rfl rfl rfl rfl ?_
        refine JL.nil ?_
        refine thenQ.n ?_
        refine J.seq ?_
        refine J.region_outK 4 1 (fun os_ ow_ x_ o_ => match os_ with | [] => (x_ = .c undef ∧ o_ = ow_.set 0 (.box b4 [.c (.int .i64 lim), .c (.int .i64 (la + 1)), evsAV (l ++ [e])])) | _ => False) mixed (by kernel_rfl) (by kernel_rfl) (by kernel_rfl) rfl ?_
        refine OutK.quiet [] rfl rfl rfl (fun qs_ qv_ ql_ => by
            rcases qs_ with _ | ⟨⟨y0, p0⟩, qs_⟩
            · skip
              exact (.q rfl (QW.load_box 2 ty58 (.tmp rfl) rfl rfl rfl))
            rcases qs_ with _ | ⟨⟨y1, p1⟩, qs_⟩
            · skip
              obtain ⟨hr0, _⟩ := qv_
              obtain ⟨rfl, rfl⟩ := hr0
              exact (.q rfl (QW.load_box 2 ty58 (.tmp rfl) rfl rfl rfl))
            exact absurd ql_ (by simp)) ?_
        refine OutK.quiet [] rfl rfl rfl (fun qs_ qv_ ql_ => (.q rfl (QW.field_ptr fo58_1 (.tmp rfl) rfl))) ?_
        refine OutK.quiet [46] rfl rfl rfl (fun qs_ qv_ ql_ => by
            rcases qs_ with _ | ⟨⟨y0, p0⟩, qs_⟩
            · skip
              exact (.q rfl (QW.load_box1 2 ty3 (.tmp rfl) rfl rfl))
            rcases qs_ with _ | ⟨⟨y1, p1⟩, qs_⟩
            · skip
              obtain ⟨hr0, _⟩ := qv_
              obtain ⟨rfl, rfl⟩ := hr0
              exact (.q rfl (QW.load_box1 2 ty3 (.tmp rfl) rfl rfl))
            exact absurd ql_ (by simp)) ?_
        refine OutK.store [45] rfl (fun qs_ ow x o h ql_ => by
            obtain rfl : qs_ = [] := List.length_eq_zero_iff.1 (by simpa using ql_)
            exact h.1) rfl rfl rfl (fun qs_ qv_ ql_ => by
            obtain rfl : qs_ = [] := List.length_eq_zero_iff.1 ql_
            exact LStep.toR rfl (by first | exact LStep.store_boxF 0 ty58 (.tmp rfl) rfl (.tmp rfl) (by first | rfl | assumption) (rfl) (rfl) rfl | exact LStep.store_box 0 ty58 (.tmp rfl) rfl (.tmp rfl) (by first | rfl | assumption) rfl rfl rfl rfl) ⟨rfl, rfl⟩) ?_
        refine .nil fun qs_ qv_ ql_ => ?_
        obtain ⟨⟨y0, p0⟩, qs_, rfl⟩ : ∃ p t, qs_ = p :: t := by (cases qs_ with | nil => simp at ql_ | cons p t => exact ⟨p, t, rfl⟩)
        obtain rfl : qs_ = [] := List.length_eq_zero_iff.1 (by simpa using ql_)
        obtain ⟨hr0, _⟩ := qv_
        obtain ⟨rfl, rfl⟩ := hr0
        refine JL.conv (by (try simp only [stepsO, List.map_cons, List.map_nil, valO, nthO, curO, mrg, List.reverse_cons, List.reverse_nil, List.nil_append, List.cons_append, List.append_nil, List.getElem?_cons_zero, List.getElem?_cons_succ, Option.map_some, Option.getD_some, List.set_cons_zero, List.set_cons_succ, AV.cellsOf, splice_zero, splice_succ, Nat.zero_add, Nat.reduceAdd]); rfl) ?_
        refine JL.q rfl rfl rfl (QW.assign (.tmp rfl)) ?_
        refine JL.q rfl rfl rfl (QW.assign .const) ?_
        refine JL.nil ?_
        refine thenQ.n ?_
        refine J.ret ?_
        exact ⟨_, selP [.k, .k, .k] _, _, RetEv.three rfl (REv.cell 0 ty58 rfl rfl rfl rfl (.refl _)) (REv.tmp rfl (.refl _)) (REv.tmp rfl (.refl _)), rfl, sel_perm [.k, .k, .k] _, ⟨congrArg Res.ret (pushAV_of (q := ⟨lim, la, l⟩) (e := e) (q' := ⟨lim, la + 1, l ++ [e]⟩) (n := la + 1) (f := 0) (by simp [QT.push, hok, c2]; omega)).symm, rfl⟩⟩

theorem qtake_ok {fr : Bool} {q : QT} {ys : List AV} (hq : Qc fr q ys) (n : Int) (hw : q.wf) : Fn Try.prog 43 [.agg ys, .c (.int .i64 n)] (takeAV q n) := by
  obtain ⟨lim, la, l⟩ := q
  subst hq
  obtain ⟨hl1, hl2, hev⟩ := hw
  have hw : (QT.mk lim la l).wf := ⟨hl1, hl2, hev⟩
  simp only at hl1 hl2 hev
  have hlen := hev.len
  refine AC.of_J Try.func43 rfl Try.ntmps43 rfl fun w0 A0 => ?_
  refine J.seq ?_
  refine J.region_lit ?_
  refine JL.box_agg (.tmp rfl) rfl fun b2 => ?_
  refine JL.alloc z58 rfl rfl fun b4 => ?_
  refine JL.q rfl rfl rfl (QW.assign .const) ?_
  refine JL.q rfl rfl rfl (QW.assign .const) ?_
  refine JL.q rfl rfl rfl (QW.assign .const) ?_
  refine JL.nil ?_
  refine thenQ.n ?_
  refine J.seq ?_
  refine J.seq ?_
  refine J.region_lit ?_
  refine JL.q rfl rfl rfl (QW.load_box 1 ty58 (.tmp rfl) rfl rfl rfl) ?_
  refine JL.q rfl rfl rfl (QW.call gofn50 (.cons (.tmp rfl) .nil) (qcheck_ok Qc.mk hw)) ?_
  refine JL.q rfl rfl rfl (QW.assign (.tmp rfl)) ?_
  refine JL.nil ?_
  refine thenQ.n ?_
  refine J.seq ?_
  refine J.region_lit ?_
  refine JL.q rfl rfl rfl (QW.move (.tmp rfl)) ?_
  refine JL.q rfl rfl rfl (QW.neq (.tmp rfl) .const) ?_
  refine JL.nil ?_
  refine thenQ.n ?_
  refine J.cond (.tmp rfl) (fun c1 => ?_) (fun c1 => ?_)
  · skip
    simp at c1
    obtain ⟨hno, he9⟩ := QT.err_no c1
    refine J.seq ?_
    refine J.region_lit ?_
    refine JL.q rfl rfl rfl (QW.build (idx := []) pl58 z58 rfl .nil rfl rfl rfl rfl) ?_
    refine JL.q rfl rfl rfl (QW.move (.tmp rfl)) ?_
    first | refine JL.store_boxF 0 ty58 (.tmp rfl) rfl (.tmp rfl) (by first | rfl | assumption) (rfl) (rfl) rfl ?_ | refine JL.store_box 0 ty58 (.tmp rfl) rfl (.tmp rfl) (by first | rfl | assumption) rfl rfl rfl rfl ?_
    refine JL.q rfl rfl rfl (QW.assign .const) ?_
    refine JL.q rfl rfl rfl (QW.assign .const) ?_
    refine JL.q rfl rfl rfl (QW.assign (.tmp rfl)) ?_
    refine JL.nil ?_
    refine thenQ.n ?_
    refine J.ret ?_
    refine thenQ.r ?_
    exact ⟨_, selP [.k, .k] _, _, RetEv.four rfl (REv.cell 0 ty58 rfl rfl rfl rfl (.aggL (.cons (.refl _) (.cons (.refl _) (.cons (.nil true false eEv) .nil))))) (REv.tmp rfl (.nil true false eEv)) (REv.tmp rfl (.refl _)) (REv.tmp rfl (.refl _)), rfl, sel_perm [.k, .k] _, ⟨congrArg Res.ret (takeAV_of (q := ⟨lim, la, l⟩) (n := n) (q' := .nil) (l := []) (m := 0) (f := (QT.mk lim la l).err) (by simp [QT.take, hno, he9])).symm, rfl⟩⟩
  · skip
    simp at c1
    have hok := QT.err_ok.1 c1
    obtain ⟨o1, o2, o3, o4, o5, -⟩ := QT.ok_inv hok
    simp only at o1 o2 o3 o4 o5
    refine J.skip ?_
    refine thenQ.n ?_
    refine J.seq ?_
    refine J.seq ?_
    refine J.region_lit ?_
    refine JL.q rfl rfl rfl (QW.move (.tmp rfl)) ?_
    refine JL.q rfl rfl rfl (QW.lss (.tmp rfl) .const) ?_
    refine JL.nil ?_
    refine thenQ.n ?_
    refine J.cond (.tmp rfl) (fun c2 => ?_) (fun c2 => ?_)
    · skip
      simp at c2
      refine J.seq ?_
      refine J.region_lit ?_
      refine JL.q rfl rfl rfl (QW.build (idx := []) pl58 z58 rfl .nil rfl rfl rfl rfl) ?_
      first | refine JL.store_boxF 0 ty58 (.tmp rfl) rfl (.tmp rfl) (by first | rfl | assumption) (rfl) (rfl) rfl ?_ | refine JL.store_box 0 ty58 (.tmp rfl) rfl (.tmp rfl) (by first | rfl | assumption) rfl rfl rfl rfl ?_
      refine JL.q rfl rfl rfl (QW.assign .const) ?_
      refine JL.q rfl rfl rfl (QW.assign .const) ?_
      refine JL.q rfl rfl rfl (QW.assign .const) ?_
      refine JL.nil ?_
      refine thenQ.n ?_
      refine J.ret ?_
      refine thenQ.r ?_
      exact ⟨_, selP [.k, .k] _, _, RetEv.four rfl (REv.cell 0 ty58 rfl rfl rfl rfl (.aggL (.cons (.refl _) (.cons (.refl _) (.cons (.nil true false eEv) .nil))))) (REv.tmp rfl (.nil true false eEv)) (REv.tmp rfl (.refl _)) (REv.tmp rfl (.refl _)), rfl, sel_perm [.k, .k] _, ⟨congrArg Res.ret (takeAV_of (q := ⟨lim, la, l⟩) (n := n) (q' := .nil) (l := []) (m := 0) (f := 4) (by simp [QT.take, hok]; omega)).symm, rfl⟩⟩
    · skip
      simp at c2
      refine J.skip ?_
      refine thenQ.n ?_
      refine J.seq ?_
      refine J.region_lit ?_
      refine JL.q rfl rfl rfl (QW.move (.tmp rfl)) ?_
      refine JL.q rfl rfl rfl (QW.field_ptr fo58_2 (.tmp rfl) rfl) ?_
      refine JL.q rfl rfl rfl (QW.load_box1 1 ty56 (.tmp rfl) rfl rfl) ?_
      refine JL.q rfl rfl rfl (by first | exact QW.len_slE sl56 (.tmp rfl) (EvT.css_length _ _) | exact QW.len_sl sl56 (.tmp rfl) | exact QW.len_nil sl56 (.tmp rfl)) ?_
      refine JL.q rfl rfl rfl (QW.min2 (.tmp rfl) (.tmp rfl)) ?_
      refine JL.q rfl rfl rfl (QW.assign (.tmp rfl)) ?_
      refine JL.nil ?_
      refine thenQ.n ?_
      refine J.seq ?_
      refine J.region_lit ?_
      refine JL.q rfl rfl rfl (QW.assign .const) ?_
      refine JL.nil ?_
      refine thenQ.n ?_
      refine J.seq ?_
      refine J.seq ?_
      refine J.region_lit ?_
      refine JL.q rfl rfl rfl (QW.move (.tmp rfl)) ?_
      refine JL.q rfl rfl rfl (QW.gtr (.tmp rfl) .const) ?_
      refine JL.nil ?_
      refine thenQ.n ?_
      refine J.cond (.tmp rfl) (fun c3 => ?_) (fun c3 => ?_)
      · skip
        simp [EvT.css_length] at c3
        refine J.region_lit ?_
        refine JL.q rfl rfl rfl (QW.field_ptr fo58_1 (.tmp rfl) rfl) ?_
        refine JL.q rfl rfl rfl (QW.load_box1 1 ty3 (.tmp rfl) rfl rfl) ?_
        refine JL.q rfl rfl rfl (QW.field_ptr fo58_2 (.tmp rfl) rfl) ?_
        refine JL.q rfl rfl rfl (QW.load_box1 1 ty56 (.tmp rfl) rfl rfl) ?_
        refine JL.q rfl rfl rfl (by first | exact QW.len_slE sl56 (.tmp rfl) (EvT.css_length _ _) | exact QW.len_sl sl56 (.tmp rfl) | exact QW.len_nil sl56 (.tmp rfl)) ?_
        refine JL.q rfl rfl rfl (QW.sub (.tmp rfl) (.tmp rfl) (by first | exact w64n (by first | rfl | omega | (simp; done)) (by omega) | exact w64 (by omega) | rfl)) ?_
        refine JL.q rfl rfl rfl (QW.add (.tmp rfl) .const (by first | exact w64n (by first | rfl | omega | (simp; done)) (by omega) | exact w64 (by omega) | rfl)) ?_
        refine JL.q rfl rfl rfl (QW.assign (.tmp rfl)) ?_
        refine JL.nil ?_
        refine thenQ.n ?_
        refine J.seq ?_
        refine J.region_lit ?_
        refine JL.q rfl rfl rfl (QW.field_ptr fo58_2 (.tmp rfl) rfl) ?_
        refine JL.q rfl rfl rfl (QW.load_box1 1 ty56 (.tmp rfl) rfl rfl) ?_
        refine JL.q rfl rfl rfl (QW.move (.tmp rfl)) ?_
        refine JL.q rfl rfl rfl (QW.call gofn87 (.cons (.tmp rfl) (.cons (Ev.le (.tmp rfl) (Le.intE (by simp only [QT.cut, EvT.css_length]; split <;> omega))) .nil)) (split_ok (k := QT.cut ⟨lim, la, l⟩ n) (Nat.min_le_right _ _))) ?_
        refine JL.q rfl rfl rfl (QW.move (.tmp rfl)) ?_
        refine JL.q rfl rfl rfl (QW.extract (.tmp rfl) rfl) ?_
        refine JL.q rfl rfl rfl (QW.extract (.tmp rfl) rfl) ?_
        refine JL.q rfl rfl rfl (QW.assign (.tmp rfl)) ?_
        refine JL.q rfl rfl rfl (QW.assign (.tmp rfl)) ?_
        refine JL.nil ?_
        refine thenQ.n ?_
        refine J.seq ?_
        refine J.region_lit ?_
        refine JL.q rfl rfl rfl (QW.move (.tmp rfl)) ?_
        refine JL.q rfl rfl rfl (QW.call gofn85 (.cons (.tmp rfl) .nil) (qclone_ok (hev.drop _))) ?_
        refine JL.q rfl rfl rfl (QW.field_ptr fo58_2 (.tmp rfl) rfl) ?_
        refine JL.store_box 1 ty56 (.tmp rfl) rfl (.tmp rfl) (by first | rfl | assumption) rfl rfl rfl rfl ?_
        refine JL.nil ?_
        refine thenQ.n ?_
        refine J.seq ?_
        refine J.region_outK 6 1 (fun os_ ow_ x_ o_ => match os_ with | [] => (x_ = .c undef ∧ o_ = ow_.set 0 (.box b4 [.c (.int .i64 lim), .c (.int .i64 la), evsAV (l.drop (QT.cut ⟨lim, la, l⟩ n))])) | _ => False) mixed (by kernel_rfl) (by kernel_rfl) (by kernel_rfl) rfl ?_
        refine OutK.quiet [] rfl rfl rfl (fun qs_ qv_ ql_ => by
            rcases qs_ with _ | ⟨⟨y0, p0⟩, qs_⟩
            · skip
              exact (.q rfl (QW.load_box 1 ty58 (.tmp rfl) rfl rfl rfl))
            rcases qs_ with _ | ⟨⟨y1, p1⟩, qs_⟩
            · skip
              obtain ⟨hr0, _⟩ := qv_
              obtain ⟨rfl, rfl⟩ := hr0
              exact (.q rfl (QW.load_box 1 ty58 (.tmp rfl) rfl rfl rfl))
            exact absurd ql_ (by simp)) ?_
        refine OutK.quiet [] rfl rfl rfl (fun qs_ qv_ ql_ => (.q rfl (QW.move (.tmp rfl)))) ?_
        refine OutK.quiet [46] rfl rfl rfl (fun qs_ qv_ ql_ => (.q rfl (QW.call gofn85 (.cons (.tmp rfl) .nil) (qclone_ok (hev.take _))))) ?_
        refine OutK.quiet [] rfl rfl rfl (fun qs_ qv_ ql_ => (.q rfl (QW.move (.tmp rfl)))) ?_
        refine OutK.store [45] rfl (fun qs_ ow x o h ql_ => by
            obtain rfl : qs_ = [] := List.length_eq_zero_iff.1 (by simpa using ql_)
            exact h.1) rfl rfl rfl (fun qs_ qv_ ql_ => by
            obtain rfl : qs_ = [] := List.length_eq_zero_iff.1 ql_
            exact LStep.toR rfl (by first | exact LStep.store_boxF 0 ty58 (.tmp rfl) rfl (.tmp rfl) (by first | rfl | assumption) (rfl) (rfl) rfl | exact LStep.store_box 0 ty58 (.tmp rfl) rfl (.tmp rfl) (by first | rfl | assumption) rfl rfl rfl rfl) ⟨rfl, rfl⟩) ?_
        refine OutK.quiet [47] rfl rfl rfl (fun qs_ qv_ ql_ => (.q rfl (QW.assign (.tmp rfl)))) ?_
        refine .nil fun qs_ qv_ ql_ => ?_
        obtain ⟨⟨y0, p0⟩, qs_, rfl⟩ : ∃ p t, qs_ = p :: t := by (cases qs_ with | nil => simp at ql_ | cons p t => exact ⟨p, t, rfl⟩)
        obtain rfl : qs_ = [] := List.length_eq_zero_iff.1 (by simpa using ql_)
        obtain ⟨hr0, _⟩ := qv_
        obtain ⟨rfl, rfl⟩ := hr0
        refine JL.conv (by (try simp only [stepsO, List.map_cons, List.map_nil, valO, nthO, curO, mrg, List.reverse_cons, List.reverse_nil, List.nil_append, List.cons_append, List.append_nil, List.getElem?_cons_zero, List.getElem?_cons_succ, Option.map_some, Option.getD_some, List.set_cons_zero, List.set_cons_succ, AV.cellsOf, splice_zero, splice_succ, Nat.zero_add, Nat.reduceAdd]); rfl) ?_
        refine JL.q rfl rfl rfl (QW.assign (.tmp rfl)) ?_
        refine JL.q rfl rfl rfl (QW.assign .const) ?_
        refine JL.nil ?_
        refine thenQ.n ?_
        refine J.ret ?_
        have hc : 0 < QT.cut ⟨lim, la, l⟩ n := by (unfold QT.cut; simp only; split at c3 <;> omega)
        exact ⟨_, selP [.k, .k] _, _, RetEv.four rfl (REv.cell 0 ty58 rfl rfl rfl rfl (.refl _)) (REv.tmp rfl (.refl _)) (REv.tmp rfl (.refl _)) (REv.tmp rfl (.refl _)), rfl, sel_perm [.k, .k] _, ⟨congrArg Res.ret (takeAV_of (q := ⟨lim, la, l⟩) (n := n) (q' := ⟨lim, la, l.drop (QT.cut ⟨lim, la, l⟩ n)⟩) (l := l.take (QT.cut ⟨lim, la, l⟩ n)) (m := la - (l.length : Int) + 1) (f := 0) (by simp [QT.take, hok, hc]; omega)).symm, rfl⟩⟩
      · skip
        simp [EvT.css_length] at c3
        refine J.skip ?_
        refine thenQ.n ?_
        refine J.seq ?_
        refine J.region_lit ?_
        refine JL.q rfl rfl rfl (QW.field_ptr fo58_2 (.tmp rfl) rfl) ?_
        refine JL.q rfl rfl rfl (QW.load_box1 1 ty56 (.tmp rfl) rfl rfl) ?_
        refine JL.q rfl rfl rfl (QW.move (.tmp rfl)) ?_
        refine JL.q rfl rfl rfl (QW.call gofn87 (.cons (.tmp rfl) (.cons (Ev.le (.tmp rfl) (Le.intE (by simp only [QT.cut, EvT.css_length]; split <;> omega))) .nil)) (split_ok (k := QT.cut ⟨lim, la, l⟩ n) (Nat.min_le_right _ _))) ?_
        refine JL.q rfl rfl rfl (QW.move (.tmp rfl)) ?_
        refine JL.q rfl rfl rfl (QW.extract (.tmp rfl) rfl) ?_
        refine JL.q rfl rfl rfl (QW.extract (.tmp rfl) rfl) ?_
        refine JL.q rfl rfl rfl (QW.assign (.tmp rfl)) ?_
        refine JL.q rfl rfl rfl (QW.assign (.tmp rfl)) ?_
        refine JL.nil ?_
        refine thenQ.n ?_
        refine J.seq ?_
        refine J.region_lit ?_
        refine JL.q rfl rfl rfl (QW.move (.tmp rfl)) ?_
        refine JL.q rfl rfl rfl (QW.call gofn85 (.cons (.tmp rfl) .nil) (qclone_ok (hev.drop _))) ?_
        refine JL.q rfl rfl rfl (QW.field_ptr fo58_2 (.tmp rfl) rfl) ?_
        refine JL.store_box 1 ty56 (.tmp rfl) rfl (.tmp rfl) (by first | rfl | assumption) rfl rfl rfl rfl ?_
        refine JL.nil ?_
        refine thenQ.n ?_
        refine J.seq ?_
        refine J.region_outK 6 1 (fun os_ ow_ x_ o_ => match os_ with | [] => (x_ = .c undef ∧ o_ = ow_.set 0 (.box b4 [.c (.int .i64 lim), .c (.int .i64 la), evsAV (l.drop (QT.cut ⟨lim, la, l⟩ n))])) | _ => False) mixed (by kernel_rfl) (by kernel_rfl) (by kernel_rfl) rfl ?_
        refine OutK.quiet [] rfl rfl rfl (fun qs_ qv_ ql_ => by
            rcases qs_ with _ | ⟨⟨y0, p0⟩, qs_⟩
            · skip
              exact (.q rfl (QW.load_box 1 ty58 (.tmp rfl) rfl rfl rfl))
            rcases qs_ with _ | ⟨⟨y1, p1⟩, qs_⟩
            · skip
              obtain ⟨hr0, _⟩ := qv_
              obtain ⟨rfl, rfl⟩ := hr0
              exact (.q rfl (QW.load_box 1 ty58 (.tmp rfl) rfl rfl rfl))
            exact absurd ql_ (by simp)) ?_
        refine OutK.quiet [] rfl rfl rfl (fun qs_ qv_ ql_ => (.q rfl (QW.move (.tmp rfl)))) ?_
        refine OutK.quiet [46] rfl rfl rfl (fun qs_ qv_ ql_ => (.q rfl (QW.call gofn85 (.cons (.tmp rfl) .nil) (qclone_ok (hev.take _))))) ?_
        refine OutK.quiet [] rfl rfl rfl (fun qs_ qv_ ql_ => (.q rfl (QW.move (.tmp rfl)))) ?_
        refine OutK.store [45] rfl (fun qs_ ow x o h ql_ => by
            obtain rfl : qs_ = [] := List.length_eq_zero_iff.1 (by simpa using ql_)
            exact h.1) rfl rfl rfl (fun qs_ qv_ ql_ => by
            obtain rfl : qs_ = [] := List.length_eq_zero_iff.1 ql_
            exact LStep.toR rfl (by first | exact LStep.store_boxF 0 ty58 (.tmp rfl) rfl (.tmp rfl) (by first | rfl | assumption) (rfl) (rfl) rfl | exact LStep.store_box 0 ty58 (.tmp rfl) rfl (.tmp rfl) (by first | rfl | assumption) rfl rfl rfl rfl) ⟨rfl, rfl⟩) ?_
        refine OutK.quiet [47] rfl rfl rfl (fun qs_ qv_ ql_ => (.q rfl (QW.assign (.tmp rfl)))) ?_
        refine .nil fun qs_ qv_ ql_ => ?_
        obtain ⟨⟨y0, p0⟩, qs_, rfl⟩ : ∃ p t, qs_ = p :: t := by (cases qs_ with | nil => simp at ql_ | cons p t => exact ⟨p, t, rfl⟩)
        obtain rfl : qs_ = [] := List.length_eq_zero_iff.1 (by simpa using ql_)
        obtain ⟨hr0, _⟩ := qv_
        obtain ⟨rfl, rfl⟩ := hr0
        refine JL.conv (by (try simp only [stepsO, List.map_cons, List.map_nil, valO, nthO, curO, mrg, List.reverse_cons, List.reverse_nil, List.nil_append, List.cons_append, List.append_nil, List.getElem?_cons_zero, List.getElem?_cons_succ, Option.map_some, Option.getD_some, List.set_cons_zero, List.set_cons_succ, AV.cellsOf, splice_zero, splice_succ, Nat.zero_add, Nat.reduceAdd]); rfl) ?_
        refine JL.q rfl rfl rfl (QW.assign (.tmp rfl)) ?_
        refine JL.q rfl rfl rfl (QW.assign .const) ?_
        refine JL.nil ?_
        refine thenQ.n ?_
        refine J.ret ?_
        have hc : QT.cut ⟨lim, la, l⟩ n = 0 := by (unfold QT.cut; simp only; split at c3 <;> omega)
        exact ⟨_, selP [.k, .k] _, _, RetEv.four rfl (REv.cell 0 ty58 rfl rfl rfl rfl (.refl _)) (REv.tmp rfl (.refl _)) (REv.tmp rfl (.refl _)) (REv.tmp rfl (.refl _)), rfl, sel_perm [.k, .k] _, ⟨congrArg Res.ret (takeAV_of (q := ⟨lim, la, l⟩) (n := n) (q' := ⟨lim, la, l.drop (QT.cut ⟨lim, la, l⟩ n)⟩) (l := l.take (QT.cut ⟨lim, la, l⟩ n)) (m := 0) (f := 0) (by simp [QT.take, hok, hc]; omega)).symm, rfl⟩⟩

end Go.Proofs.Ytkiankpmkglhcaa.J

/- Walks: items: copies of their own; boxes: may one be, copies of their own, two alike. -/
namespace Go.Proofs.Ytkiankpmkglhcaa.J
open Go Go.RowKit
set_option linter.unusedVariables false
set_option linter.unusedSimpArgs false
set_option maxRecDepth 10000
set_option maxHeartbeats 4000000

theorem splice_it {fr : Bool} {e : ItT} {kv iv : Value} : splice (e.cs fr) 2 (e.ev.arg.raw kv iv) = e.raw kv iv := by
  unfold ItT.cs EvT.cs
  rw [splice_succ, splice_succ, splice_all (by rw [V.cs_length]; rfl)]
  rfl
theorem splice_it2 {fr : Bool} {e : ItT} : splice (e.cs fr) 2 (e.ev.arg.cs true) = e.cs true := by
  unfold ItT.cs EvT.cs
  rw [splice_succ, splice_succ, splice_all (by rw [V.cs_length, V.cs_length])]
theorem it_take {l : List ItT} {j : Nat} (h : j < l.length) : ItT.css true (l.take j) ++ [ItT.cs true l[j]] = ItT.css true (l.take (j + 1)) := by rw [List.take_succ_eq_append_getElem h, ItT.css_append]; rfl
def BownR : BT → AV → List Own → Prop
  | ⟨a, l⟩, x, o => ∃ v, x = .agg [.c (.int .i64 a), .c v] ∧ v.oneCell' = true ∧ o = [.arr v eIt (ItT.css true l)]
/-- A box in memory of its own. -/
def OfBR : BT → AV → List Own → Prop
  | ⟨a, l⟩, x, o => ∃ v ov, x = .agg [.c (.int .i64 a), .c v] ∧ v.oneCell' = true ∧ o = [ov] ∧ Tr (.sl true false eIt (ItT.css true l)) v ov
theorem Fn.ofBown {P : Program} {f : FuncId} {xs : List AV} {q : BT} (hw : ItT.wfs q.items) (h : AC P f [] xs (RetR (BownR q))) : Fn P f xs q.av :=
  Fn.close h fun x o h => by
    obtain ⟨la, l⟩ := q
    obtain ⟨v, rfl, _, rfl⟩ := h
    exact ⟨[(v, itsAV l)], fun w A hok hb p hp => Clos.arr (by rw [ItT.css_length]; exact hw.1) w A (hok _ (by simp)) (fun b hb' => hb b (by simpa [fps_cons, fps_nil] using hb')) p hp, .aggL (.cons (.refl _) (.cons (.fact (x := itsAV l) (by simp) (.refl _)) .nil))⟩
theorem Fn.ofIts {P : Program} {f : FuncId} {xs : List AV} {l : List ItT} (h : AC P f [] xs (RetR (ItsR l))) : Fn P f xs (itsAV l) :=
  Fn.close h fun x o ⟨v, ov, hx, _, ho, hT⟩ => by
    subst hx ho
    refine ⟨[(v, .sl true false eIt (ItT.css true l))], fun w A hok hb p hp => ?_, .fact (x := .sl true false eIt (ItT.css true l)) (by simp) (.refl _)⟩
    simp only [List.mem_singleton] at hp
    subst hp
    exact hT.rd (hok _ (by simp)) fun b hb' => hb b (by simpa [fps_cons, fps_nil] using hb') true

theorem copyItems_ok {fr c : Bool} {l : List ItT} (hl : ItT.wfs l) : AC Try.prog 94 [] [.sl fr c eIt (ItT.css fr l)] (RetR (ItsR l)) := by
  have hlen := hl.len
  have hl1 := hl.1
  refine AC.of_J Try.func94 rfl Try.ntmps94 rfl fun w0 A0 => ?_
  refine J.seq ?_
  refine J.region_lit ?_
  refine JL.q rfl rfl rfl (QW.assign .const) ?_
  refine JL.nil ?_
  refine thenQ.n ?_
  refine J.seq ?_
  refine J.region_lit ?_
  refine JL.q rfl rfl rfl (QW.assign .const) ?_
  refine JL.nil ?_
  refine thenQ.n ?_
  refine J.seq ?_
  refine J.seq ?_
  refine J.region_lit ?_
  refine JL.q rfl rfl rfl (QW.assign .const) ?_
  refine JL.nil ?_
  refine thenQ.n ?_
  refine J.block ?_
  refine J.reown (Reown.nilArrE eIt _) ?_
  refine J.reown (Reown.nilGrpE _) ?_
  refine J.loopK (ι := Nat × Value × List (List AV) × List Value × Own) [0, 2] (fun ⟨j, v, cs, us, o⟩ => [(4, .c (.int .i64 (j : Int))), (3, .c v)]) (fun ⟨j, v, cs, us, o⟩ oo => List.set (List.set oo 0 (.arr v eIt cs)) 1 (o)) (fun ⟨j, v, cs, us, o⟩ => j ≤ l.length ∧ ListTr eIt (ItT.css true (l.take j)) cs us o) (fun ⟨j, v, cs, us, o⟩ => l.length - j) ⟨0, .slice none 0 0, [], [], .grp []⟩ (⟨Nat.zero_le _, .nil _⟩) (Wk.re (.cons rfl (.refl _) (.cons rfl (.refl _) (.cons rfl (.refl _) (.cons rfl (.refl _) .nil)))) (Reown.refl _) (fun _ h => by first | exact h | simp [h])) ?_
  intro ⟨j, v, cs, us, o⟩ ⟨hj, hK⟩
  refine J.conv (by (try simp only [stepsO, List.map_cons, List.map_nil, valO, nthO, curO, mrg, List.reverse_cons, List.reverse_nil, List.nil_append, List.cons_append, List.append_nil, List.getElem?_cons_zero, List.getElem?_cons_succ, Option.map_some, Option.getD_some, List.set_cons_zero, List.set_cons_succ, AV.cellsOf, splice_zero, splice_succ, Nat.zero_add, Nat.reduceAdd]); rfl) ?_
  refine J.seq ?_
  refine J.seq ?_
  refine J.region_lit ?_
  refine JL.q rfl rfl rfl (QW.move (.tmp rfl)) ?_
  refine JL.q rfl rfl rfl (QW.move (.tmp rfl)) ?_
  refine JL.q rfl rfl rfl (by first | exact QW.len_slE sl88 (.tmp rfl) (ItT.css_length _ _) | exact QW.len_slE sl88 (.tmp rfl) (EvT.css_length _ _) | exact QW.len_sl sl88 (.tmp rfl) | exact QW.len_nil sl88 (.tmp rfl)) ?_
  refine JL.q rfl rfl rfl (QW.lss (.tmp rfl) (.tmp rfl)) ?_
  refine JL.nil ?_
  refine thenQ.n ?_
  refine J.cond (.tmp rfl) (fun c1 => ?_) (fun c1 => ?_)
  · skip
    have hlt : j < l.length := by simpa [ItT.css_length] using c1
    refine J.skip ?_
    refine thenQ.n ?_
    refine J.seq ?_
    refine J.block ?_
    refine J.seq ?_
    refine J.region_lit ?_
    refine JL.q rfl rfl rfl (QW.move (.tmp rfl)) ?_
    refine JL.q rfl rfl rfl (QW.move (.tmp rfl)) ?_
    refine JL.q rfl rfl rfl (QW.index_sl sl88 ty116 rfl (.tmp rfl) (.tmp rfl) (by first | rfl | omega | (simp; done)) (by exact ItT.css_getE _ hlt)) ?_
    refine JL.q rfl rfl rfl (by first | exact QW.load_ref ty116 (.tmp rfl) rfl rfl | exact QW.load_ref ty116 (.tmp rfl) (take_at0 (ItT.cs_length _ _) rfl) (ItT.cs_length _ _)) ?_
    refine JL.alloc z116 rfl rfl fun b5 => ?_
    first | refine JL.store_boxF 0 ty116 (.tmp rfl) rfl (.tmp rfl) (by first | rfl | assumption) (rfl) (rfl) rfl ?_ | refine JL.store_boxF 0 ty116 (.tmp rfl) rfl (.tmp rfl) (by first | rfl | assumption) (rfl) (ItT.cs_length _ _) rfl ?_ | refine JL.store_boxF 0 ty116 (.tmp rfl) rfl (.tmp rfl) (by first | rfl | assumption) (ItT.cs_length _ _) (rfl) rfl ?_ | refine JL.store_boxF 0 ty116 (.tmp rfl) rfl (.tmp rfl) (by first | rfl | assumption) (ItT.cs_length _ _) (ItT.cs_length _ _) rfl ?_ | refine JL.store_box 0 ty116 (.tmp rfl) rfl (.tmp rfl) (by first | rfl | assumption) rfl rfl rfl rfl ?_ | refine JL.store_box 0 ty116 (.tmp rfl) rfl (.tmp rfl) (by first | rfl | assumption) (ItT.cs_length _ _) rfl rfl rfl ?_
    refine JL.nil ?_
    refine thenQ.n ?_
    refine J.seq ?_
    refine J.region_lit ?_
    refine JL.q rfl rfl rfl (QW.field_ptr fo116_1 (.tmp rfl) rfl) ?_
    refine JL.q rfl rfl rfl (QW.field_ptr fo114_1 (.tmp rfl) rfl) ?_
    refine JL.q rfl rfl rfl (by first | exact QW.load_box 0 ty26 (.tmp rfl) rfl rfl rfl | exact QW.load_box 0 ty26 (.tmp rfl) rfl (take_at (V.cs_length _ _) rfl) (V.cs_length _ _)) ?_
    refine JL.callRF [] gofn20 rfl Lent.nil (fun _ => (.cons (.tmp rfl) .nil)) (copyValue_ok Vc.self (hl.2 _ (List.getElem_mem hlt)).ev.arg) (.inl rfl) fun x19 o19 h19 => ?_
    obtain ⟨kv19, iv19, ok19, oi19, rfl, rfl, hV19⟩ := h19
    refine JL.q rfl rfl rfl (QW.field_ptr fo116_1 (.tmp rfl) rfl) ?_
    refine JL.q rfl rfl rfl (QW.field_ptr fo114_1 (.tmp rfl) rfl) ?_
    refine JL.store_box 0 ty26 (.tmp rfl) rfl (.tmp rfl) rfl rfl (by show Nat.ble _ (ItT.cs fr (l[j]'hlt)).length = true; rw [ItT.cs_length]; rfl) splice_it rfl ?_
    refine JL.nil ?_
    refine thenQ.n ?_
    refine J.region_lit ?_
    refine JL.q rfl rfl rfl (QW.move (.tmp rfl)) ?_
    refine JL.q rfl rfl rfl (by first | exact QW.load_box 0 ty116 (.tmp rfl) rfl rfl rfl | exact QW.load_box 0 ty116 (.tmp rfl) rfl (take_at (ItT.cs_length _ _) rfl) (ItT.cs_length _ _)) ?_
    refine JL.q rfl rfl rfl (QW.buildSlice (idx := [0]) (xs := [(l[j]'hlt).raw kv19 iv19]) sl88 el116 z116 rfl (.cons (.tmp rfl) .nil) rfl rfl rfl rfl rfl rfl rfl rfl rfl) ?_
    refine JL.append 1 sl88 el116 rfl (.tmp rfl) rfl (srcA_sl sl88 (.tmp rfl)) (by have := hK.h2; rw [ItT.css_length, List.length_take] at this; simp; unfold reach at *; omega) rfl fun v25 => ?_
    refine JL.q rfl rfl rfl (QW.assign (.tmp rfl)) ?_
    refine JL.nil ?_
    refine blkQ.n ?_
    refine thenQ.n ?_
    refine J.region_lit ?_
    refine JL.q rfl rfl rfl (QW.move (.tmp rfl)) ?_
    refine JL.q rfl rfl rfl (QW.add (.tmp rfl) .const (by first | exact w64n (by first | rfl | omega | (simp; done)) (by omega) | exact w64 (by omega) | rfl)) ?_
    refine JL.q rfl rfl rfl (QW.assign (.tmp rfl)) ?_
    refine JL.nil ?_
    refine thenQ.n ?_
    exact ⟨⟨j + 1, _, _, _, _⟩, ⟨hlt, by rw [List.take_succ_eq_append_getElem hlt]; exact hK.snocI hV19⟩, by show l.length - (j + 1) < l.length - j; omega, Wk.re (.cons rfl (.refl _) (.cons rfl (.refl _) (.cons rfl (.refl _) (.cons rfl (.refl _) .nil)))) ((Reown.dropN 1 _ rfl).trans (Reown.cons (Reown.tri _ _ _ _))) (fun _ h => by first | exact h | simp [h])⟩
  · skip
    have hge : l.length ≤ j := by simpa [ItT.css_length] using c1
    refine J.exit ?_
    refine thenQ.x ?_
    refine thenQ.x ?_
    refine blkQ.hit ?_
    refine thenQ.n ?_
    refine J.seq ?_
    refine J.isSlice 0 rfl fun hs1 => ?_
    refine J.reown (Reown.grp2 _ _ _) ?_
    refine J.region_lit ?_
    refine JL.q rfl rfl rfl (QW.move (.tmp rfl)) ?_
    refine JL.q rfl rfl rfl (QW.assign (.tmp rfl)) ?_
    refine JL.nil ?_
    refine thenQ.n ?_
    refine J.ret ?_
    obtain rfl : j = l.length := by omega
    rw [List.take_length] at hK
    exact ⟨_, selP [.p] _, _, RetEv.one rfl (REv.tmp rfl (.refl _)), rfl, sel_perm [.p] _, ⟨_, rfl, _, _, rfl, hs1, rfl, hK.tr (by rw [ItT.css_length]; exact hl1)⟩⟩

theorem copyItems_rd {fr c : Bool} {l : List ItT} (hl : ItT.wfs l) : Fn Try.prog 94 [.sl fr c eIt (ItT.css fr l)] (itsAV l) := .ofIts (copyItems_ok hl)

theorem of08_ok {fr : Bool} {q : BT} {ys : List AV} (hq : Bc fr q ys) (hw : q.wf) : Fn Try.prog 52 [.agg ys] q.av := by
  obtain ⟨la, l⟩ := q
  subst hq
  obtain ⟨hl1, hit⟩ := hw
  have hw : (BT.mk la l).wf := ⟨hl1, hit⟩
  simp only at hl1 hit
  have hlen := hit.len
  refine AC.of_J Try.func52 rfl Try.ntmps52 rfl fun w0 A0 => ?_
  refine J.seq ?_
  refine J.region_lit ?_
  refine JL.box_agg (.tmp rfl) rfl fun b1 => ?_
  refine JL.alloc z92 rfl rfl fun b2 => ?_
  refine JL.nil ?_
  refine thenQ.n ?_
  refine J.seq ?_
  refine J.region_tailK 5 mixed (by kernel_rfl) (by kernel_rfl) (by kernel_rfl) rfl ?_
  refine .cons [] rfl rfl rfl (.q rfl (QW.field_ptr fo90_0 (.tmp rfl) rfl)) ?_
  refine .cons [3] rfl rfl rfl (.q rfl (QW.load_box1 1 ty3 (.tmp rfl) rfl rfl)) ?_
  refine .cons [] rfl rfl rfl (.q rfl (QW.field_ptr fo90_1 (.tmp rfl) rfl)) ?_
  refine .cons [5] rfl rfl rfl (.q rfl (QW.load_box1 1 ty88 (.tmp rfl) rfl rfl)) ?_
  refine .cons [6] rfl rfl rfl (.q rfl (QW.call gofn94 (.cons (.tmp rfl) .nil) (copyItems_rd hit))) ?_
  refine .nil ?_
  refine JL.q rfl rfl rfl (QW.build (idx := [0, 1]) pl92 z92 rfl (.cons (.tmp rfl) (.cons (.tmp rfl) .nil)) rfl rfl rfl rfl) ?_
  first | refine JL.store_boxF 0 ty92 (.tmp rfl) rfl (.tmp rfl) (by first | rfl | assumption) (rfl) (rfl) rfl ?_ | refine JL.store_boxF 0 ty92 (.tmp rfl) rfl (.tmp rfl) (by first | rfl | assumption) (rfl) (BT.cs_length _ _) rfl ?_ | refine JL.store_boxF 0 ty92 (.tmp rfl) rfl (.tmp rfl) (by first | rfl | assumption) (BT.cs_length _ _) (rfl) rfl ?_ | refine JL.store_boxF 0 ty92 (.tmp rfl) rfl (.tmp rfl) (by first | rfl | assumption) (BT.cs_length _ _) (BT.cs_length _ _) rfl ?_ | refine JL.store_box 0 ty92 (.tmp rfl) rfl (.tmp rfl) (by first | rfl | assumption) rfl rfl rfl rfl ?_ | refine JL.store_box 0 ty92 (.tmp rfl) rfl (.tmp rfl) (by first | rfl | assumption) (BT.cs_length _ _) rfl rfl rfl ?_
  refine JL.nil ?_
  refine thenQ.n ?_
  refine J.ret ?_
  exact ⟨_, selP [.k, .k] _, _, RetEv.one rfl (by first | exact REv.cell 0 ty92 rfl rfl rfl rfl (.refl _) | exact REv.cell 0 ty92 rfl rfl (take_at (BT.cs_length _ _) rfl) (BT.cs_length _ _) (.refl _)), rfl, sel_perm [.k, .k] _, ⟨rfl, rfl⟩⟩

theorem of08_own {fr : Bool} {q : BT} {ys : List AV} (hq : Bc fr q ys) (hw : q.wf) : AC Try.prog 52 [] [.agg ys] (RetR (OfBR q)) := by
  obtain ⟨la, l⟩ := q
  subst hq
  obtain ⟨hl1, hit⟩ := hw
  have hw : (BT.mk la l).wf := ⟨hl1, hit⟩
  simp only at hl1 hit
  have hlen := hit.len
  refine AC.of_J Try.func52 rfl Try.ntmps52 rfl fun w0 A0 => ?_
  refine J.seq ?_
  refine J.region_lit ?_
  refine JL.box_agg (.tmp rfl) rfl fun b1 => ?_
  refine JL.alloc z92 rfl rfl fun b2 => ?_
  refine JL.nil ?_
  refine thenQ.n ?_
  refine J.seq ?_
  refine J.region_outK 5 1 (fun os_ ow_ x_ o_ => match os_ with | [] => (∃ o2_, (ItsR l) x_ o2_ ∧ o_ = mrg [] o2_ ow_) | _ => False) mixed (by kernel_rfl) (by kernel_rfl) (by kernel_rfl) rfl ?_
  refine OutK.quiet [] rfl rfl rfl (fun qs_ qv_ ql_ => (.q rfl (QW.field_ptr fo90_0 (.tmp rfl) rfl))) ?_
  refine OutK.quiet [3] rfl rfl rfl (fun qs_ qv_ ql_ => by
      rcases qs_ with _ | ⟨⟨y0, p0⟩, qs_⟩
      · skip
        exact (.q rfl (QW.load_box1 1 ty3 (.tmp rfl) rfl rfl))
      rcases qs_ with _ | ⟨⟨y1, p1⟩, qs_⟩
      · skip
        obtain ⟨hr0, _⟩ := qv_
        obtain ⟨o7, ⟨v7, ov7, rfl, hs7, rfl, hT7⟩, rfl⟩ := hr0
        exact (.q rfl (QW.load_box1 1 ty3 (.tmp rfl) rfl rfl))
      exact absurd ql_ (by simp)) ?_
  refine OutK.quiet [] rfl rfl rfl (fun qs_ qv_ ql_ => (.q rfl (QW.field_ptr fo90_1 (.tmp rfl) rfl))) ?_
  refine OutK.quiet [5] rfl rfl rfl (fun qs_ qv_ ql_ => by
      rcases qs_ with _ | ⟨⟨y0, p0⟩, qs_⟩
      · skip
        exact (.q rfl (QW.load_box1 1 ty88 (.tmp rfl) rfl rfl))
      rcases qs_ with _ | ⟨⟨y1, p1⟩, qs_⟩
      · skip
        obtain ⟨hr0, _⟩ := qv_
        obtain ⟨o7, ⟨v7, ov7, rfl, hs7, rfl, hT7⟩, rfl⟩ := hr0
        exact (.q rfl (QW.load_box1 1 ty88 (.tmp rfl) rfl rfl))
      exact absurd ql_ (by simp)) ?_
  refine OutK.loud [6] rfl rfl rfl rfl rfl (fun qs_ qv_ ql_ => by
      obtain rfl : qs_ = [] := List.length_eq_zero_iff.1 ql_
      exact LStepR.callRF (d := 7) [] gofn94 Lent.nil (fun _ => (.cons (.tmp rfl) .nil)) (copyItems_ok hit) (.inl rfl)) ?_
  refine .nil fun qs_ qv_ ql_ => ?_
  obtain ⟨⟨y0, p0⟩, qs_, rfl⟩ : ∃ p t, qs_ = p :: t := by (cases qs_ with | nil => simp at ql_ | cons p t => exact ⟨p, t, rfl⟩)
  obtain rfl : qs_ = [] := List.length_eq_zero_iff.1 (by simpa using ql_)
  obtain ⟨hr0, _⟩ := qv_
  obtain ⟨o7, ⟨v7, ov7, rfl, hs7, rfl, hT7⟩, rfl⟩ := hr0
  refine JL.conv (by (try simp only [stepsO, List.map_cons, List.map_nil, valO, nthO, curO, mrg, List.reverse_cons, List.reverse_nil, List.nil_append, List.cons_append, List.append_nil, List.getElem?_cons_zero, List.getElem?_cons_succ, Option.map_some, Option.getD_some, List.set_cons_zero, List.set_cons_succ, AV.cellsOf, splice_zero, splice_succ, Nat.zero_add, Nat.reduceAdd]); rfl) ?_
  refine JL.q rfl rfl rfl (QW.build (idx := [0, 1]) pl92 z92 rfl (.cons (.tmp rfl) (.cons (.tmp rfl) .nil)) rfl (by simp [AV.plain, AV.one, hs7]; rfl) rfl rfl) ?_
  first | refine JL.store_boxF 0 ty92 (.tmp rfl) rfl (.tmp rfl) (by first | rfl | assumption) (rfl) (rfl) rfl ?_ | refine JL.store_boxF 0 ty92 (.tmp rfl) rfl (.tmp rfl) (by first | rfl | assumption) (rfl) (BT.cs_length _ _) rfl ?_ | refine JL.store_boxF 0 ty92 (.tmp rfl) rfl (.tmp rfl) (by first | rfl | assumption) (BT.cs_length _ _) (rfl) rfl ?_ | refine JL.store_boxF 0 ty92 (.tmp rfl) rfl (.tmp rfl) (by first | rfl | assumption) (BT.cs_length _ _) (BT.cs_length _ _) rfl ?_ | refine JL.store_box 0 ty92 (.tmp rfl) rfl (.tmp rfl) (by first | rfl | assumption) rfl rfl rfl rfl ?_ | refine JL.store_box 0 ty92 (.tmp rfl) rfl (.tmp rfl) (by first | rfl | assumption) (BT.cs_length _ _) rfl rfl rfl ?_
  refine JL.nil ?_
  refine thenQ.n ?_
  refine J.ret ?_
  exact ⟨_, selP [.k, .k, .p] _, _, RetEv.one rfl (by first | exact REv.cell 0 ty92 rfl rfl rfl rfl (.refl _) | exact REv.cell 0 ty92 rfl rfl (take_at (BT.cs_length _ _) rfl) (BT.cs_length _ _) (.refl _)), rfl, sel_perm [.k, .k, .p] _, ⟨_, rfl, _, _, rfl, hs7, rfl, hT7⟩⟩

theorem num08_ok (e : Int) : Fn Try.prog 61 [.c (.int .i64 e)] (.c (.int .i64 e)) := by
  refine AC.of_J Try.func61 rfl Try.ntmps61 rfl fun w0 A0 => ?_
  refine J.seq ?_
  refine J.region_lit ?_
  refine JL.q rfl rfl rfl (QW.assign .const) ?_
  refine JL.nil ?_
  refine thenQ.n ?_
  refine J.seq ?_
  refine J.region_lit ?_
  refine JL.q rfl rfl rfl (QW.move (.tmp rfl)) ?_
  refine JL.q rfl rfl rfl (QW.assign (.tmp rfl)) ?_
  refine JL.nil ?_
  refine thenQ.n ?_
  refine J.ret ?_
  exact ⟨_, selP [] _, _, RetEv.one rfl (REv.tmp rfl (.refl _)), rfl, sel_perm [] _, ⟨rfl, rfl⟩⟩

theorem alike08_ok {fr fr2 : Bool} {p q : BT} {ys zs : List AV} (hp : Bc fr p ys) (hq : Bc fr2 q zs) (hw : p.wf) (hw2 : q.wf) : Fn Try.prog 60 [.agg ys, .agg zs] (.c (.int .i64 (if p = q then 0 else 1))) := by
  obtain ⟨a, l⟩ := p
  obtain ⟨c, m⟩ := q
  subst hp hq
  obtain ⟨-, hl⟩ := hw
  obtain ⟨-, hm⟩ := hw2
  simp only at hl hm
  refine AC.of_J Try.func60 rfl Try.ntmps60 rfl fun w0 A0 => ?_
  refine J.seq ?_
  refine J.region_lit ?_
  refine JL.box_agg (.tmp rfl) rfl fun b2 => ?_
  refine JL.box_agg (.tmp rfl) rfl fun b3 => ?_
  refine JL.q rfl rfl rfl (QW.assign .const) ?_
  refine JL.nil ?_
  refine thenQ.n ?_
  refine J.seq ?_
  refine J.seq ?_
  refine J.region_lit ?_
  refine JL.q rfl rfl rfl (QW.field_ptr fo92_0 (.tmp rfl) rfl) ?_
  refine JL.q rfl rfl rfl (QW.load_box1 1 ty3 (.tmp rfl) rfl rfl) ?_
  refine JL.q rfl rfl rfl (QW.field_ptr fo90_0 (.tmp rfl) rfl) ?_
  refine JL.q rfl rfl rfl (QW.load_box1 0 ty3 (.tmp rfl) rfl rfl) ?_
  refine JL.q rfl rfl rfl (QW.neq (.tmp rfl) (.tmp rfl)) ?_
  refine JL.q rfl rfl rfl (QW.move (.tmp rfl)) ?_
  refine JL.g rfl rfl rfl rfl rfl (fun hg => (QW.field_ptr fo92_1 (.tmp rfl) rfl)) ?_
  refine JL.g rfl rfl rfl rfl rfl (fun hg => (QW.load_box1 1 ty88 (.when rfl hg) rfl rfl)) ?_
  refine JL.g rfl rfl rfl rfl rfl (fun hg => (QW.field_ptr fo90_1 (.tmp rfl) rfl)) ?_
  refine JL.g rfl rfl rfl rfl rfl (fun hg => (QW.load_box1 0 ty88 (.when rfl hg) rfl rfl)) ?_
  refine JL.g rfl rfl rfl rfl rfl (fun hg => (QW.call gofn62 (.cons (.when rfl hg) (.cons (.when rfl hg) .nil)) (sameItems_ok hl hm))) ?_
  refine JL.g rfl rfl rfl rfl rfl (fun hg => (QW.not (.when rfl hg))) ?_
  refine JL.q rfl rfl rfl (QW.pick_or (.tmp rfl) (.tmp rfl)) ?_
  refine JL.nil ?_
  refine thenQ.n ?_
  refine J.cond (.tmp rfl) (fun c1 => ?_) (fun c1 => ?_)
  · skip
    refine J.seq ?_
    refine J.region_lit ?_
    refine JL.q rfl rfl rfl (QW.assign .const) ?_
    refine JL.nil ?_
    refine thenQ.n ?_
    refine J.ret ?_
    refine thenQ.r ?_
    exact ⟨_, selP [.k, .k] _, _, RetEv.one rfl (REv.tmp rfl (.refl _)), rfl, sel_perm [.k, .k] _, ⟨by rw [if_neg]; intro e; simp at e; obtain ⟨rfl, rfl⟩ := e; simp at c1, rfl⟩⟩
  · skip
    refine J.skip ?_
    refine thenQ.n ?_
    refine J.seq ?_
    refine J.region_lit ?_
    refine JL.q rfl rfl rfl (QW.assign .const) ?_
    refine JL.nil ?_
    refine thenQ.n ?_
    refine J.ret ?_
    exact ⟨_, selP [.k, .k] _, _, RetEv.one rfl (REv.tmp rfl (.refl _)), rfl, sel_perm [.k, .k] _, ⟨by rw [if_pos]; simp at c1; obtain ⟨h1, h3⟩ := c1; rw [h1, h3], rfl⟩⟩

theorem rown08_ok {fr : Bool} {e : ItT} {ys : List AV} (he : Ic fr e ys) (hw : e.wf) : Fn Try.prog 99 [.agg ys] (.agg (e.cs true)) := by
  subst he
  have hv := hw.ev.arg
  refine AC.of_J Try.func99 rfl Try.ntmps99 rfl fun w0 A0 => ?_
  refine J.seq ?_
  refine J.region_lit ?_
  refine JL.box_agg (.tmp rfl) rfl fun b1 => ?_
  refine JL.alloc z116 rfl rfl fun b2 => ?_
  refine JL.nil ?_
  refine thenQ.n ?_
  refine J.seq ?_
  refine J.region_lit ?_
  refine JL.q rfl rfl rfl (QW.field_ptr fo116_1 (.tmp rfl) rfl) ?_
  refine JL.q rfl rfl rfl (QW.field_ptr fo114_1 (.tmp rfl) rfl) ?_
  refine JL.q rfl rfl rfl (by first | exact QW.load_box 1 ty26 (.tmp rfl) rfl rfl rfl | exact QW.load_box 1 ty26 (.tmp rfl) rfl (take_at (V.cs_length _ _) rfl) (V.cs_length _ _)) ?_
  refine JL.q rfl rfl rfl (QW.call gofn79 (.cons (.tmp rfl) .nil) (rown_rd Vc.self hv)) ?_
  refine JL.q rfl rfl rfl (QW.field_ptr fo116_1 (.tmp rfl) rfl) ?_
  refine JL.q rfl rfl rfl (QW.field_ptr fo114_1 (.tmp rfl) rfl) ?_
  refine JL.store_box 1 ty26 (.tmp rfl) rfl (.tmp rfl) rfl (V.cs_length _ _) (by rw [ItT.cs_length]; rfl) splice_it2 rfl ?_
  refine JL.nil ?_
  refine thenQ.n ?_
  refine J.seq ?_
  refine J.region_lit ?_
  refine JL.q rfl rfl rfl (by first | exact QW.load_box 1 ty116 (.tmp rfl) rfl rfl rfl | exact QW.load_box 1 ty116 (.tmp rfl) rfl (take_at (ItT.cs_length _ _) rfl) (ItT.cs_length _ _)) ?_
  first | refine JL.store_boxF 0 ty116 (.tmp rfl) rfl (.tmp rfl) (by first | rfl | assumption) (rfl) (rfl) rfl ?_ | refine JL.store_boxF 0 ty116 (.tmp rfl) rfl (.tmp rfl) (by first | rfl | assumption) (rfl) (ItT.cs_length _ _) rfl ?_ | refine JL.store_boxF 0 ty116 (.tmp rfl) rfl (.tmp rfl) (by first | rfl | assumption) (ItT.cs_length _ _) (rfl) rfl ?_ | refine JL.store_boxF 0 ty116 (.tmp rfl) rfl (.tmp rfl) (by first | rfl | assumption) (ItT.cs_length _ _) (ItT.cs_length _ _) rfl ?_ | refine JL.store_box 0 ty116 (.tmp rfl) rfl (.tmp rfl) (by first | rfl | assumption) rfl rfl rfl rfl ?_ | refine JL.store_box 0 ty116 (.tmp rfl) rfl (.tmp rfl) (by first | rfl | assumption) (ItT.cs_length _ _) rfl rfl rfl ?_
  refine JL.nil ?_
  refine thenQ.n ?_
  refine J.ret ?_
  exact ⟨_, selP [.k, .k] _, _, RetEv.one rfl (by first | exact REv.cell 0 ty116 rfl rfl rfl rfl (.refl _) | exact REv.cell 0 ty116 rfl rfl (take_at (ItT.cs_length _ _) rfl) (ItT.cs_length _ _) (.refl _)), rfl, sel_perm [.k, .k] _, ⟨rfl, rfl⟩⟩

theorem rbown_ok {fr : Bool} {q : BT} {ys : List AV} (hq : Bc fr q ys) (hw : q.wf) : AC Try.prog 98 [] [.agg ys] (RetR (BownR q)) := by
  obtain ⟨la, l⟩ := q
  subst hq
  obtain ⟨hl1, hit⟩ := hw
  have hw : (BT.mk la l).wf := ⟨hl1, hit⟩
  simp only at hl1 hit
  have hlen := hit.len
  refine AC.of_J Try.func98 rfl Try.ntmps98 rfl fun w0 A0 => ?_
  refine J.seq ?_
  refine J.region_lit ?_
  refine JL.box_agg (.tmp rfl) rfl fun b1 => ?_
  refine JL.alloc z90 rfl rfl fun b2 => ?_
  refine JL.nil ?_
  refine thenQ.n ?_
  refine J.seq ?_
  refine J.region_lit ?_
  refine JL.q rfl rfl rfl (QW.field_ptr fo90_0 (.tmp rfl) rfl) ?_
  refine JL.q rfl rfl rfl (QW.load_box1 1 ty3 (.tmp rfl) rfl rfl) ?_
  refine JL.q rfl rfl rfl (QW.build (idx := [0]) pl90 z90 rfl (.cons (.tmp rfl) .nil) rfl rfl rfl rfl) ?_
  refine JL.alloc z90 rfl rfl fun b3 => ?_
  first | refine JL.store_boxF 0 ty90 (.tmp rfl) rfl (.tmp rfl) (by first | rfl | assumption) (rfl) (rfl) rfl ?_ | refine JL.store_boxF 0 ty90 (.tmp rfl) rfl (.tmp rfl) (by first | rfl | assumption) (rfl) (BT.cs_length _ _) rfl ?_ | refine JL.store_boxF 0 ty90 (.tmp rfl) rfl (.tmp rfl) (by first | rfl | assumption) (BT.cs_length _ _) (rfl) rfl ?_ | refine JL.store_boxF 0 ty90 (.tmp rfl) rfl (.tmp rfl) (by first | rfl | assumption) (BT.cs_length _ _) (BT.cs_length _ _) rfl ?_ | refine JL.store_box 0 ty90 (.tmp rfl) rfl (.tmp rfl) (by first | rfl | assumption) rfl rfl rfl rfl ?_ | refine JL.store_box 0 ty90 (.tmp rfl) rfl (.tmp rfl) (by first | rfl | assumption) (BT.cs_length _ _) rfl rfl rfl ?_
  refine JL.nil ?_
  refine thenQ.n ?_
  refine J.seq ?_
  refine J.seq ?_
  refine J.region_lit ?_
  refine JL.q rfl rfl rfl (QW.assign .const) ?_
  refine JL.nil ?_
  refine thenQ.n ?_
  refine J.block ?_
  refine J.reown (Reown.nilArrE eIt _) ?_
  refine J.loopK (ι := Nat × Value) [1, 2, 3] (fun ⟨j, v⟩ => [(4, .c (.int .i64 (j : Int)))]) (fun ⟨j, v⟩ oo => List.set (List.set oo 0 (.box b3 [.c (.int .i64 la), .c v])) 3 (.arr v eIt (ItT.css true (l.take j)))) (fun ⟨j, v⟩ => j ≤ l.length) (fun ⟨j, v⟩ => l.length - j) ⟨0, .slice none 0 0⟩ (Nat.zero_le _) (Wk.re (.cons rfl (.refl _) (.cons rfl (.refl _) (.cons rfl (.refl _) (.cons rfl (.refl _) .nil)))) (Reown.refl _) (fun _ h => by first | exact h | simp [h])) ?_
  intro ⟨j, v⟩ hj
  refine J.conv (by (try simp only [stepsO, List.map_cons, List.map_nil, valO, nthO, curO, mrg, List.reverse_cons, List.reverse_nil, List.nil_append, List.cons_append, List.append_nil, List.getElem?_cons_zero, List.getElem?_cons_succ, Option.map_some, Option.getD_some, List.set_cons_zero, List.set_cons_succ, AV.cellsOf, splice_zero, splice_succ, Nat.zero_add, Nat.reduceAdd]); rfl) ?_
  refine J.seq ?_
  refine J.seq ?_
  refine J.region_lit ?_
  refine JL.q rfl rfl rfl (QW.move (.tmp rfl)) ?_
  refine JL.q rfl rfl rfl (QW.field_ptr fo90_1 (.tmp rfl) rfl) ?_
  refine JL.q rfl rfl rfl (QW.load_box1 2 ty88 (.tmp rfl) rfl rfl) ?_
  refine JL.q rfl rfl rfl (by first | exact QW.len_slE sl88 (.tmp rfl) (ItT.css_length _ _) | exact QW.len_slE sl88 (.tmp rfl) (EvT.css_length _ _) | exact QW.len_sl sl88 (.tmp rfl) | exact QW.len_nil sl88 (.tmp rfl)) ?_
  refine JL.q rfl rfl rfl (QW.lss (.tmp rfl) (.tmp rfl)) ?_
  refine JL.nil ?_
  refine thenQ.n ?_
  refine J.cond (.tmp rfl) (fun c1 => ?_) (fun c1 => ?_)
  · skip
    have hlt : j < l.length := by simpa [ItT.css_length] using c1
    refine J.skip ?_
    refine thenQ.n ?_
    refine J.seq ?_
    refine J.block ?_
    refine J.region_tailK 9 mixed (by kernel_rfl) (by kernel_rfl) (by kernel_rfl) rfl ?_
    refine .cons [] rfl rfl rfl (.q rfl (QW.field_ptr fo90_1 (.tmp rfl) rfl)) ?_
    refine .cons [15] rfl rfl rfl (.q rfl (QW.load_box1 0 ty88 (.tmp rfl) rfl rfl)) ?_
    refine .cons [] rfl rfl rfl (.q rfl (QW.field_ptr fo90_1 (.tmp rfl) rfl)) ?_
    refine .cons [17] rfl rfl rfl (.q rfl (QW.load_box1 2 ty88 (.tmp rfl) rfl rfl)) ?_
    refine .cons [] rfl rfl rfl (.q rfl (QW.move (.tmp rfl))) ?_
    refine .cons [18, 19] rfl rfl rfl (.q rfl (QW.index_sl sl88 ty116 rfl (.tmp rfl) (.tmp rfl) (by first | rfl | omega | (simp; done)) (by exact ItT.css_getE _ hlt))) ?_
    refine .cons [20] rfl rfl rfl (.q rfl (by first | exact QW.load_ref ty116 (.tmp rfl) rfl rfl | exact QW.load_ref ty116 (.tmp rfl) (take_at0 (ItT.cs_length _ _) rfl) (ItT.cs_length _ _))) ?_
    refine .cons [21] rfl rfl rfl (.q rfl (QW.call gofn99 (.cons (.tmp rfl) .nil) (rown08_ok Ic.self (hit.2 _ (List.getElem_mem hlt))))) ?_
    refine .cons [22] rfl rfl rfl (.q rfl (QW.buildSlice (idx := [0]) (xs := [ItT.cs true (l[j]'hlt)]) sl88 el116 z116 rfl (.cons (.tmp rfl) .nil) rfl rfl rfl rfl rfl (by exact fill_one (ItT.cs_length _ _)) rfl (all_one (ItT.cs_length _ _)) rfl)) ?_
    refine .nil ?_
    refine JL.append 3 sl88 el116 rfl (.tmp rfl) rfl (srcA_sl sl88 (.tmp rfl)) (by rw [ItT.css_length, List.length_take]; simp; have := hit.1; unfold reach at *; omega) rfl fun v24 => ?_
    refine JL.q rfl rfl rfl (QW.field_ptr fo90_1 (.tmp rfl) rfl) ?_
    refine JL.isSlice 3 rfl fun hs2 => ?_
    refine JL.store_box 0 ty88 (.tmp rfl) rfl (.tmp rfl) (by first | rfl | assumption) rfl rfl rfl rfl ?_
    refine JL.nil ?_
    refine blkQ.n ?_
    refine thenQ.n ?_
    refine J.region_lit ?_
    refine JL.q rfl rfl rfl (QW.move (.tmp rfl)) ?_
    refine JL.q rfl rfl rfl (QW.add (.tmp rfl) .const (by first | exact w64n (by first | rfl | omega | (simp; done)) (by omega) | exact w64 (by omega) | rfl)) ?_
    refine JL.q rfl rfl rfl (QW.assign (.tmp rfl)) ?_
    refine JL.nil ?_
    refine thenQ.n ?_
    exact ⟨⟨j + 1, v24⟩, hlt, by show l.length - (j + 1) < l.length - j; omega, Wk.re (.cons rfl (.refl _) (.cons rfl (.refl _) (.cons rfl (.refl _) (.cons rfl (.refl _) .nil)))) (Reown.ofEq (by show [Own.box b3 [.c (.int .i64 la), .c v24], _, _, Own.arr v24 eIt (ItT.css true (l.take j) ++ [ItT.cs true (l[j]'hlt)])] = _; rw [it_take hlt]; rfl)) (fun _ h => by first | exact h | simp [h])⟩
  · skip
    have hge : l.length ≤ j := by simpa [ItT.css_length] using c1
    refine J.exit ?_
    refine thenQ.x ?_
    refine thenQ.x ?_
    refine blkQ.hit ?_
    refine thenQ.n ?_
    refine J.seq ?_
    refine J.isSlice 3 rfl fun hs1 => ?_
    refine J.region_lit ?_
    refine JL.q rfl rfl rfl (by first | exact QW.load_box 0 ty90 (.tmp rfl) rfl rfl rfl | exact QW.load_box 0 ty90 (.tmp rfl) rfl (take_at (BT.cs_length _ _) rfl) (BT.cs_length _ _)) ?_
    first | refine JL.store_boxF 1 ty90 (.tmp rfl) rfl (.tmp rfl) (by first | rfl | assumption) (rfl) (rfl) rfl ?_ | refine JL.store_boxF 1 ty90 (.tmp rfl) rfl (.tmp rfl) (by first | rfl | assumption) (rfl) (BT.cs_length _ _) rfl ?_ | refine JL.store_boxF 1 ty90 (.tmp rfl) rfl (.tmp rfl) (by first | rfl | assumption) (BT.cs_length _ _) (rfl) rfl ?_ | refine JL.store_boxF 1 ty90 (.tmp rfl) rfl (.tmp rfl) (by first | rfl | assumption) (BT.cs_length _ _) (BT.cs_length _ _) rfl ?_ | refine JL.store_box 1 ty90 (.tmp rfl) rfl (.tmp rfl) (by first | rfl | assumption) rfl rfl rfl rfl ?_ | refine JL.store_box 1 ty90 (.tmp rfl) rfl (.tmp rfl) (by first | rfl | assumption) (BT.cs_length _ _) rfl rfl rfl ?_
    refine JL.nil ?_
    refine thenQ.n ?_
    refine J.ret ?_
    obtain rfl : j = l.length := by omega
    rw [List.take_length]
    exact ⟨_, selP [.k, .k, .k, .p] _, _, RetEv.one rfl (by first | exact REv.cell 1 ty90 rfl rfl rfl rfl (.refl _) | exact REv.cell 1 ty90 rfl rfl (take_at (BT.cs_length _ _) rfl) (BT.cs_length _ _) (.refl _)), rfl, sel_perm [.k, .k, .k, .p] _, ⟨_, rfl, _, rfl, hs1, rfl⟩⟩

end Go.Proofs.Ytkiankpmkglhcaa.J

/- Walks: may a box be, by the program and by the page; the program's copy. -/
namespace Go.Proofs.Ytkiankpmkglhcaa.J
open Go Go.RowKit
set_option linter.unusedVariables false
set_option linter.unusedSimpArgs false
set_option maxRecDepth 10000
set_option maxHeartbeats 4000000

theorem idsOk_step {la p : Int} {l : List ItT} {j : Nat} (h : j < l.length) : idsOk la p (l.drop j) = (decide (p < l[j].id) && decide (l[j].id < 32 * (la + 1)) && evOk l[j].ev && idsOk la l[j].id (l.drop (j + 1))) := by
  rw [List.drop_eq_getElem_cons h, idsOk]
theorem BT.err_of {la : Int} {l : List ItT} (h1 : 0 ≤ la ∧ la ≤ 1099511627776) (h2 : l.length ≤ 256) : (BT.mk la l).err = if idsOk la 31 l then 0 else 9 := by
  unfold BT.err BT.ok
  simp [h1, h2]
theorem BT.err_bad {la : Int} {l : List ItT} (h : ¬ (0 ≤ la ∧ la ≤ 1099511627776 ∧ l.length ≤ 256)) : (BT.mk la l).err = 9 := by
  unfold BT.err BT.ok
  rw [if_neg]
  simp only [Bool.and_eq_true, decide_eq_true_eq]
  intro hh
  exact h ⟨hh.1.1.1, hh.1.1.2, hh.1.2⟩
theorem ErrOk {e : EvT} : (evErr e = 0) ↔ evOk e = true := by rw [evOk_iff]; simp

theorem bcheck_ok {fr : Bool} {q : BT} {ys : List AV} (hq : Bc fr q ys) (hw : q.wf) : Fn Try.prog 63 [.agg ys] (.c (.int .i64 q.err)) := by
  obtain ⟨la, l⟩ := q
  subst hq
  obtain ⟨hl1, hit⟩ := hw
  have hw : (BT.mk la l).wf := ⟨hl1, hit⟩
  simp only at hl1 hit
  have hlen := hit.len
  refine AC.of_J Try.func63 rfl Try.ntmps63 rfl fun w0 A0 => ?_
  refine J.seq ?_
  refine J.region_lit ?_
  refine JL.box_agg (.tmp rfl) rfl fun b1 => ?_
  refine JL.q rfl rfl rfl (QW.assign .const) ?_
  refine JL.nil ?_
  refine thenQ.n ?_
  refine J.seq ?_
  refine J.seq ?_
  refine J.region_lit ?_
  refine JL.q rfl rfl rfl (QW.field_ptr fo92_0 (.tmp rfl) rfl) ?_
  refine JL.q rfl rfl rfl (QW.load_box1 0 ty3 (.tmp rfl) rfl rfl) ?_
  refine JL.q rfl rfl rfl (QW.lss (.tmp rfl) .const) ?_
  refine JL.q rfl rfl rfl (QW.move (.tmp rfl)) ?_
  refine JL.g rfl rfl rfl rfl rfl (fun hg => (QW.field_ptr fo92_0 (.tmp rfl) rfl)) ?_
  refine JL.g rfl rfl rfl rfl rfl (fun hg => (QW.load_box1 0 ty3 (.when rfl hg) rfl rfl)) ?_
  refine JL.g rfl rfl rfl rfl rfl (fun hg => (QW.gtr (.when rfl hg) .const)) ?_
  refine JL.q rfl rfl rfl (QW.pick_or (.tmp rfl) (.tmp rfl)) ?_
  refine JL.q rfl rfl rfl (QW.move (.tmp rfl)) ?_
  refine JL.g rfl rfl rfl rfl rfl (fun hg => (QW.field_ptr fo92_1 (.tmp rfl) rfl)) ?_
  refine JL.g rfl rfl rfl rfl rfl (fun hg => (QW.load_box1 0 ty88 (.when rfl hg) rfl rfl)) ?_
  refine JL.g rfl rfl rfl rfl rfl (fun hg => (by first | exact QW.len_slE sl88 (.when rfl hg) (ItT.css_length _ _) | exact QW.len_slE sl88 (.when rfl hg) (EvT.css_length _ _) | exact QW.len_sl sl88 (.when rfl hg) | exact QW.len_nil sl88 (.when rfl hg))) ?_
  refine JL.g rfl rfl rfl rfl rfl (fun hg => (QW.gtr (.when rfl hg) .const)) ?_
  refine JL.q rfl rfl rfl (QW.pick_or (.tmp rfl) (.tmp rfl)) ?_
  refine JL.nil ?_
  refine thenQ.n ?_
  refine J.cond (.tmp rfl) (fun c1 => ?_) (fun c1 => ?_)
  · skip
    skip
    refine J.seq ?_
    refine J.region_lit ?_
    refine JL.q rfl rfl rfl (QW.assign .const) ?_
    refine JL.nil ?_
    refine thenQ.n ?_
    refine J.ret ?_
    refine thenQ.r ?_
    exact ⟨_, selP [.k] _, _, RetEv.one rfl (REv.tmp rfl (.refl _)), rfl, sel_perm [.k] _, ⟨by rw [BT.err_bad]; simp [ItT.css_length] at c1; omega, rfl⟩⟩
  · skip
    simp [ItT.css_length] at c1
    have hb1 : 0 ≤ la ∧ la ≤ 1099511627776 := by omega
    have hb2 : l.length ≤ 256 := by omega
    refine J.skip ?_
    refine thenQ.n ?_
    refine J.seq ?_
    refine J.region_lit ?_
    refine JL.q rfl rfl rfl (QW.assign .const) ?_
    refine JL.nil ?_
    refine thenQ.n ?_
    refine J.seq ?_
    refine J.seq ?_
    refine J.region_lit ?_
    refine JL.q rfl rfl rfl (QW.field_ptr fo92_1 (.tmp rfl) rfl) ?_
    refine JL.q rfl rfl rfl (QW.load_box1 0 ty88 (.tmp rfl) rfl rfl) ?_
    refine JL.q rfl rfl rfl (by first | exact QW.len_slE sl88 (.tmp rfl) (ItT.css_length _ _) | exact QW.len_slE sl88 (.tmp rfl) (EvT.css_length _ _) | exact QW.len_sl sl88 (.tmp rfl) | exact QW.len_nil sl88 (.tmp rfl)) ?_
    refine JL.q rfl rfl rfl (QW.move .const) ?_
    refine JL.nil ?_
    refine thenQ.n ?_
    refine J.block ?_
    refine J.loopK (ι := Nat × Int) [1, 21, 22] (fun ⟨j, p⟩ => [(23, .c (.int .i64 (j : Int))), (3, .c (.int .i64 p))]) (fun _ oo => oo) (fun ⟨j, p⟩ => j ≤ l.length ∧ idsOk la 31 l = idsOk la p (l.drop j)) (fun ⟨j, p⟩ => l.length - j) ⟨0, 31⟩ (⟨Nat.zero_le _, rfl⟩) (Wk.re (.cons rfl (.refl _) (.cons rfl (.refl _) (.cons rfl (.refl _) (.cons rfl (.refl _) (.cons rfl (.refl _) .nil))))) (Reown.refl _) (fun _ h => by first | exact h | simp [h])) ?_
    intro ⟨j, p⟩ ⟨hj, ha⟩
    refine J.conv (by (try simp only [stepsO, List.map_cons, List.map_nil, valO, nthO, curO, mrg, List.reverse_cons, List.reverse_nil, List.nil_append, List.cons_append, List.append_nil, List.getElem?_cons_zero, List.getElem?_cons_succ, Option.map_some, Option.getD_some, List.set_cons_zero, List.set_cons_succ, AV.cellsOf, splice_zero, splice_succ, Nat.zero_add, Nat.reduceAdd]); rfl) ?_
    refine J.seq ?_
    refine J.region_lit ?_
    refine JL.q rfl rfl rfl (QW.lss (.tmp rfl) (.tmp rfl)) ?_
    refine JL.nil ?_
    refine thenQ.n ?_
    refine J.seq ?_
    refine J.cond (.tmp rfl) (fun c2 => ?_) (fun c2 => ?_)
    · skip
      have hlt : j < l.length := by simpa [ItT.css_length] using c2
      refine J.skip ?_
      refine thenQ.n ?_
      refine J.seq ?_
      refine J.block ?_
      refine J.seq ?_
      refine J.region_lit ?_
      refine JL.q rfl rfl rfl (QW.index_sl sl88 ty116 rfl (.tmp rfl) (.tmp rfl) (by first | rfl | omega | (simp; done)) (by exact ItT.css_getE _ hlt)) ?_
      refine JL.q rfl rfl rfl (by first | exact QW.load_ref ty116 (.tmp rfl) rfl rfl | exact QW.load_ref ty116 (.tmp rfl) (take_at0 (ItT.cs_length _ _) rfl) (ItT.cs_length _ _)) ?_
      refine JL.alloc z116 rfl rfl fun b5 => ?_
      first | refine JL.store_boxF 0 ty116 (.tmp rfl) rfl (.tmp rfl) (by first | rfl | assumption) (rfl) (rfl) rfl ?_ | refine JL.store_boxF 0 ty116 (.tmp rfl) rfl (.tmp rfl) (by first | rfl | assumption) (rfl) (ItT.cs_length _ _) rfl ?_ | refine JL.store_boxF 0 ty116 (.tmp rfl) rfl (.tmp rfl) (by first | rfl | assumption) (ItT.cs_length _ _) (rfl) rfl ?_ | refine JL.store_boxF 0 ty116 (.tmp rfl) rfl (.tmp rfl) (by first | rfl | assumption) (ItT.cs_length _ _) (ItT.cs_length _ _) rfl ?_ | refine JL.store_box 0 ty116 (.tmp rfl) rfl (.tmp rfl) (by first | rfl | assumption) rfl rfl rfl rfl ?_ | refine JL.store_box 0 ty116 (.tmp rfl) rfl (.tmp rfl) (by first | rfl | assumption) (ItT.cs_length _ _) rfl rfl rfl ?_
      refine JL.nil ?_
      refine thenQ.n ?_
      refine J.seq ?_
      refine J.seq ?_
      refine J.region_lit ?_
      refine JL.q rfl rfl rfl (QW.field_ptr fo116_0 (.tmp rfl) rfl) ?_
      refine JL.q rfl rfl rfl (QW.load_box1 0 ty3 (.tmp rfl) rfl rfl) ?_
      refine JL.q rfl rfl rfl (QW.move (.tmp rfl)) ?_
      refine JL.q rfl rfl rfl (QW.leq (.tmp rfl) (.tmp rfl)) ?_
      refine JL.q rfl rfl rfl (QW.move (.tmp rfl)) ?_
      refine JL.g rfl rfl rfl rfl rfl (fun hg => (QW.field_ptr fo116_0 (.tmp rfl) rfl)) ?_
      refine JL.g rfl rfl rfl rfl rfl (fun hg => (QW.load_box1 0 ty3 (.when rfl hg) rfl rfl)) ?_
      refine JL.g rfl rfl rfl rfl rfl (fun hg => (QW.field_ptr fo92_0 (.tmp rfl) rfl)) ?_
      refine JL.g rfl rfl rfl rfl rfl (fun hg => (QW.load_box1 1 ty3 (.when rfl hg) rfl rfl)) ?_
      refine JL.g rfl rfl rfl rfl rfl (fun hg => (QW.add (.when rfl hg) .const (by first | exact w64n (by first | rfl | omega | (simp; done)) (by omega) | exact w64 (by omega) | rfl))) ?_
      refine JL.g rfl rfl rfl rfl rfl (fun hg => (QW.mul .const (.when rfl hg) (by first | exact w64n (by first | rfl | omega | (simp; done)) (by omega) | exact w64 (by omega) | rfl))) ?_
      refine JL.g rfl rfl rfl rfl rfl (fun hg => (QW.geq (.when rfl hg) (.when rfl hg))) ?_
      refine JL.q rfl rfl rfl (QW.pick_or (.tmp rfl) (.tmp rfl)) ?_
      refine JL.q rfl rfl rfl (QW.move (.tmp rfl)) ?_
      refine JL.g rfl rfl rfl rfl rfl (fun hg => (QW.field_ptr fo116_1 (.tmp rfl) rfl)) ?_
      refine JL.g rfl rfl rfl rfl rfl (fun hg => (by first | exact QW.load_box 0 ty114 (.when rfl hg) rfl rfl rfl | exact QW.load_box 0 ty114 (.when rfl hg) rfl (take_at (EvT.cs_length _ _) rfl) (EvT.cs_length _ _))) ?_
      refine JL.g rfl rfl rfl rfl rfl (fun hg => (QW.call gofn96 (.cons (.when rfl hg) .nil) (effect_ok Ec.self (hit.2 _ (List.getElem_mem hlt)).ev))) ?_
      refine JL.g rfl rfl rfl rfl rfl (fun hg => (QW.neq (.when rfl hg) .const)) ?_
      refine JL.q rfl rfl rfl (QW.pick_or (.tmp rfl) (.tmp rfl)) ?_
      refine JL.nil ?_
      refine thenQ.n ?_
      refine J.cond (.tmp rfl) (fun c3 => ?_) (fun c3 => ?_)
      · skip
        skip
        refine J.seq ?_
        refine J.region_lit ?_
        refine JL.q rfl rfl rfl (QW.assign .const) ?_
        refine JL.nil ?_
        refine thenQ.n ?_
        refine J.ret ?_
        refine thenQ.r ?_
        refine blkQ.r ?_
        refine thenQ.r ?_
        refine thenQ.r ?_
        refine blkQ.r ?_
        refine thenQ.r ?_
        exact ⟨_, selP [.k, .k] _, _, RetEv.one rfl (REv.tmp rfl (.refl _)), rfl, sel_perm [.k, .k] _, ⟨by rw [BT.err_of hb1 hb2, ha, idsOk_step hlt, if_neg]; intro hh; simp only [Bool.and_eq_true, decide_eq_true_eq] at hh; simp only [Bool.or_eq_true, decide_eq_true_eq, bne_iff_ne] at c3; have := ErrOk.2 hh.1.2; omega, rfl⟩⟩
      · skip
        have hst : idsOk la p (l.drop j) = idsOk la l[j].id (l.drop (j + 1)) := by
          rw [idsOk_step hlt]
          simp only [Bool.or_eq_false_iff, decide_eq_false_iff_not, bne_eq_false_iff_eq] at c3
          obtain ⟨⟨g1, g2⟩, g3⟩ := c3
          simp [ErrOk.1 g3]
          omega
        refine J.skip ?_
        refine thenQ.n ?_
        refine J.region_lit ?_
        refine JL.q rfl rfl rfl (QW.field_ptr fo116_0 (.tmp rfl) rfl) ?_
        refine JL.q rfl rfl rfl (QW.load_box1 0 ty3 (.tmp rfl) rfl rfl) ?_
        refine JL.q rfl rfl rfl (QW.assign (.tmp rfl)) ?_
        refine JL.nil ?_
        refine blkQ.n ?_
        refine thenQ.n ?_
        refine J.region_lit ?_
        refine JL.q rfl rfl rfl (QW.add (.tmp rfl) .const (by first | exact w64n (by first | rfl | omega | (simp; done)) (by omega) | exact w64 (by omega) | rfl)) ?_
        refine JL.q rfl rfl rfl (QW.move (.tmp rfl)) ?_
        refine JL.nil ?_
        refine thenQ.n ?_
        exact ⟨⟨j + 1, l[j].id⟩, ⟨hlt, ha.trans hst⟩, by show l.length - (j + 1) < l.length - j; omega, Wk.re (.cons rfl (.refl _) (.cons rfl (.refl _) (.cons rfl (.refl _) (.cons rfl (.refl _) (.cons rfl (.refl _) .nil))))) (Reown.dropN 1 _ rfl) (fun _ h => by first | exact h | simp [h])⟩
    · skip
      have hge : l.length ≤ j := by simpa [ItT.css_length] using c2
      refine J.exit ?_
      refine thenQ.x ?_
      refine thenQ.x ?_
      refine blkQ.hit ?_
      refine thenQ.n ?_
      refine J.seq ?_
      refine J.region_lit ?_
      refine JL.q rfl rfl rfl (QW.assign .const) ?_
      refine JL.nil ?_
      refine thenQ.n ?_
      refine J.ret ?_
      exact ⟨_, selP [.k] _, _, RetEv.one rfl (REv.tmp rfl (.refl _)), rfl, sel_perm [.k] _, ⟨by rw [BT.err_of hb1 hb2, ha, List.drop_of_length_le hge]; rfl, rfl⟩⟩

theorem rbcheck_ok {fr : Bool} {q : BT} {ys : List AV} (hq : Bc fr q ys) (hw : q.wf) : Fn Try.prog 64 [.agg ys] (.c (.int .i64 q.err)) := by
  obtain ⟨la, l⟩ := q
  subst hq
  obtain ⟨hl1, hit⟩ := hw
  have hw : (BT.mk la l).wf := ⟨hl1, hit⟩
  simp only at hl1 hit
  have hlen := hit.len
  refine AC.of_J Try.func64 rfl Try.ntmps64 rfl fun w0 A0 => ?_
  refine J.seq ?_
  refine J.region_lit ?_
  refine JL.box_agg (.tmp rfl) rfl fun b1 => ?_
  refine JL.q rfl rfl rfl (QW.assign .const) ?_
  refine JL.nil ?_
  refine thenQ.n ?_
  refine J.seq ?_
  refine J.seq ?_
  refine J.region_lit ?_
  refine JL.q rfl rfl rfl (QW.field_ptr fo90_0 (.tmp rfl) rfl) ?_
  refine JL.q rfl rfl rfl (QW.load_box1 0 ty3 (.tmp rfl) rfl rfl) ?_
  refine JL.q rfl rfl rfl (QW.lss (.tmp rfl) .const) ?_
  refine JL.q rfl rfl rfl (QW.move (.tmp rfl)) ?_
  refine JL.g rfl rfl rfl rfl rfl (fun hg => (QW.field_ptr fo90_0 (.tmp rfl) rfl)) ?_
  refine JL.g rfl rfl rfl rfl rfl (fun hg => (QW.load_box1 0 ty3 (.when rfl hg) rfl rfl)) ?_
  refine JL.g rfl rfl rfl rfl rfl (fun hg => (QW.gtr (.when rfl hg) .const)) ?_
  refine JL.q rfl rfl rfl (QW.pick_or (.tmp rfl) (.tmp rfl)) ?_
  refine JL.q rfl rfl rfl (QW.move (.tmp rfl)) ?_
  refine JL.g rfl rfl rfl rfl rfl (fun hg => (QW.field_ptr fo90_1 (.tmp rfl) rfl)) ?_
  refine JL.g rfl rfl rfl rfl rfl (fun hg => (QW.load_box1 0 ty88 (.when rfl hg) rfl rfl)) ?_
  refine JL.g rfl rfl rfl rfl rfl (fun hg => (by first | exact QW.len_slE sl88 (.when rfl hg) (ItT.css_length _ _) | exact QW.len_slE sl88 (.when rfl hg) (EvT.css_length _ _) | exact QW.len_sl sl88 (.when rfl hg) | exact QW.len_nil sl88 (.when rfl hg))) ?_
  refine JL.g rfl rfl rfl rfl rfl (fun hg => (QW.gtr (.when rfl hg) .const)) ?_
  refine JL.q rfl rfl rfl (QW.pick_or (.tmp rfl) (.tmp rfl)) ?_
  refine JL.nil ?_
  refine thenQ.n ?_
  refine J.cond (.tmp rfl) (fun c1 => ?_) (fun c1 => ?_)
  · skip
    skip
    refine J.seq ?_
    refine J.region_lit ?_
    refine JL.q rfl rfl rfl (QW.assign .const) ?_
    refine JL.nil ?_
    refine thenQ.n ?_
    refine J.ret ?_
    refine thenQ.r ?_
    exact ⟨_, selP [.k] _, _, RetEv.one rfl (REv.tmp rfl (.refl _)), rfl, sel_perm [.k] _, ⟨by rw [BT.err_bad]; simp [ItT.css_length] at c1; omega, rfl⟩⟩
  · skip
    simp [ItT.css_length] at c1
    have hb1 : 0 ≤ la ∧ la ≤ 1099511627776 := by omega
    have hb2 : l.length ≤ 256 := by omega
    refine J.skip ?_
    refine thenQ.n ?_
    refine J.seq ?_
    refine J.seq ?_
    refine J.region_lit ?_
    refine JL.q rfl rfl rfl (QW.assign .const) ?_
    refine JL.nil ?_
    refine thenQ.n ?_
    refine J.block ?_
    refine J.loopK (ι := Nat × Int) [1] (fun ⟨j, p⟩ => [(3, .c (.int .i64 (j : Int)))]) (fun _ oo => oo) (fun ⟨j, p⟩ => j ≤ l.length ∧ idsOk la 31 l = idsOk la p (l.drop j) ∧ (j = 0 → p = 31) ∧ (∀ x, 0 < j → l[j - 1]? = some x → p = x.id) ∧ 31 ≤ p) (fun ⟨j, p⟩ => l.length - j) ⟨0, 31⟩ (⟨Nat.zero_le _, rfl, fun _ => rfl, fun _ h => absurd h (Nat.lt_irrefl _), Int.le_refl _⟩) (Wk.re (.cons rfl (.refl _) (.cons rfl (.refl _) .nil)) (Reown.refl _) (fun _ h => by first | exact h | simp [h])) ?_
    intro ⟨j, p⟩ ⟨hj, ha, hp0, hp1, hp2⟩
    refine J.conv (by (try simp only [stepsO, List.map_cons, List.map_nil, valO, nthO, curO, mrg, List.reverse_cons, List.reverse_nil, List.nil_append, List.cons_append, List.append_nil, List.getElem?_cons_zero, List.getElem?_cons_succ, Option.map_some, Option.getD_some, List.set_cons_zero, List.set_cons_succ, AV.cellsOf, splice_zero, splice_succ, Nat.zero_add, Nat.reduceAdd]); rfl) ?_
    refine J.seq ?_
    refine J.seq ?_
    refine J.region_lit ?_
    refine JL.q rfl rfl rfl (QW.move (.tmp rfl)) ?_
    refine JL.q rfl rfl rfl (QW.field_ptr fo90_1 (.tmp rfl) rfl) ?_
    refine JL.q rfl rfl rfl (QW.load_box1 0 ty88 (.tmp rfl) rfl rfl) ?_
    refine JL.q rfl rfl rfl (by first | exact QW.len_slE sl88 (.tmp rfl) (ItT.css_length _ _) | exact QW.len_slE sl88 (.tmp rfl) (EvT.css_length _ _) | exact QW.len_sl sl88 (.tmp rfl) | exact QW.len_nil sl88 (.tmp rfl)) ?_
    refine JL.q rfl rfl rfl (QW.lss (.tmp rfl) (.tmp rfl)) ?_
    refine JL.nil ?_
    refine thenQ.n ?_
    refine J.cond (.tmp rfl) (fun c2 => ?_) (fun c2 => ?_)
    · skip
      have hlt : j < l.length := by simpa [ItT.css_length] using c2
      refine J.skip ?_
      refine thenQ.n ?_
      refine J.seq ?_
      refine J.block ?_
      refine J.seq ?_
      refine J.region_lit ?_
      refine JL.q rfl rfl rfl (QW.field_ptr fo90_1 (.tmp rfl) rfl) ?_
      refine JL.q rfl rfl rfl (QW.load_box1 0 ty88 (.tmp rfl) rfl rfl) ?_
      refine JL.q rfl rfl rfl (QW.move (.tmp rfl)) ?_
      refine JL.q rfl rfl rfl (QW.index_sl sl88 ty116 rfl (.tmp rfl) (.tmp rfl) (by first | rfl | omega | (simp; done)) (by exact ItT.css_getE _ hlt)) ?_
      refine JL.q rfl rfl rfl (by first | exact QW.load_ref ty116 (.tmp rfl) rfl rfl | exact QW.load_ref ty116 (.tmp rfl) (take_at0 (ItT.cs_length _ _) rfl) (ItT.cs_length _ _)) ?_
      refine JL.alloc z116 rfl rfl fun b4 => ?_
      first | refine JL.store_boxF 0 ty116 (.tmp rfl) rfl (.tmp rfl) (by first | rfl | assumption) (rfl) (rfl) rfl ?_ | refine JL.store_boxF 0 ty116 (.tmp rfl) rfl (.tmp rfl) (by first | rfl | assumption) (rfl) (ItT.cs_length _ _) rfl ?_ | refine JL.store_boxF 0 ty116 (.tmp rfl) rfl (.tmp rfl) (by first | rfl | assumption) (ItT.cs_length _ _) (rfl) rfl ?_ | refine JL.store_boxF 0 ty116 (.tmp rfl) rfl (.tmp rfl) (by first | rfl | assumption) (ItT.cs_length _ _) (ItT.cs_length _ _) rfl ?_ | refine JL.store_box 0 ty116 (.tmp rfl) rfl (.tmp rfl) (by first | rfl | assumption) rfl rfl rfl rfl ?_ | refine JL.store_box 0 ty116 (.tmp rfl) rfl (.tmp rfl) (by first | rfl | assumption) (ItT.cs_length _ _) rfl rfl rfl ?_
      refine JL.nil ?_
      refine thenQ.n ?_
      refine J.seq ?_
      refine J.region_tailK 25 mixed (by kernel_rfl) (by kernel_rfl) (by kernel_rfl) rfl ?_
      refine .cons [] rfl rfl rfl (.q rfl (QW.field_ptr fo116_0 (.tmp rfl) rfl)) ?_
      refine .cons [31] rfl rfl rfl (.q rfl (QW.load_box1 0 ty3 (.tmp rfl) rfl rfl)) ?_
      refine .cons [32] rfl rfl rfl (.q rfl (QW.lss (.tmp rfl) .const)) ?_
      refine .cons [33] rfl rfl rfl (.q rfl (QW.move (.tmp rfl))) ?_
      refine .cons [34] rfl rfl rfl (.g rfl rfl rfl (fun hg => (QW.field_ptr fo116_0 (.tmp rfl) rfl))) ?_
      refine .cons [35, 34] rfl rfl rfl (.g rfl rfl rfl (fun hg => (QW.load_box1 0 ty3 (.when rfl hg) rfl rfl))) ?_
      refine .cons [34] rfl rfl rfl (.g rfl rfl rfl (fun hg => (QW.field_ptr fo90_0 (.tmp rfl) rfl))) ?_
      refine .cons [37, 34] rfl rfl rfl (.g rfl rfl rfl (fun hg => (QW.load_box1 1 ty3 (.when rfl hg) rfl rfl))) ?_
      refine .cons [38, 34] rfl rfl rfl (.g rfl rfl rfl (fun hg => (QW.add (.when rfl hg) .const (by first | exact w64n (by first | rfl | omega | (simp; done)) (by omega) | exact w64 (by omega) | rfl)))) ?_
      refine .cons [39, 34] rfl rfl rfl (.g rfl rfl rfl (fun hg => (QW.mul .const (.when rfl hg) (by first | exact w64n (by first | rfl | omega | (simp; done)) (by omega) | exact w64 (by omega) | rfl)))) ?_
      refine .cons [36, 40, 34] rfl rfl rfl (.g rfl rfl rfl (fun hg => (QW.geq (.when rfl hg) (.when rfl hg)))) ?_
      refine .cons [34, 41] rfl rfl rfl (.q rfl (QW.pick_or (.tmp rfl) (.tmp rfl))) ?_
      refine .cons [42] rfl rfl rfl (.q rfl (QW.move (.tmp rfl))) ?_
      refine .cons [43] rfl rfl rfl (.g rfl rfl rfl (fun hg => (QW.move (.tmp rfl)))) ?_
      refine .cons [44, 43] rfl rfl rfl (.g rfl rfl rfl (fun hg => (QW.gtr (.when rfl hg) .const))) ?_
      refine .cons [45, 43] rfl rfl rfl (.g rfl rfl rfl (fun hg => (QW.move (.when rfl hg)))) ?_
      refine .cons [46] rfl rfl rfl (.gg rfl rfl rfl (fun hg => (QW.field_ptr fo116_0 (.tmp rfl) rfl))) ?_
      refine .cons [47, 46] rfl rfl rfl (.gg rfl rfl rfl (fun hg => (QW.load_box1 0 ty3 (.when rfl hg) rfl rfl))) ?_
      refine .cons [46] rfl rfl rfl (.gg rfl rfl rfl (fun hg => (QW.field_ptr fo90_1 (.tmp rfl) rfl))) ?_
      refine .cons [49, 46] rfl rfl rfl (.gg rfl rfl rfl (fun hg => (QW.load_box1 1 ty88 (.when rfl hg) rfl rfl))) ?_
      refine .cons [46] rfl rfl rfl (.gg rfl rfl rfl (fun hg => (QW.move (.tmp rfl)))) ?_
      refine .cons [51, 46] rfl rfl rfl (.gg rfl rfl rfl (fun hg => (QW.sub (.when rfl hg) .const (by first | exact w64n (by first | rfl | omega | (simp; done)) (by omega) | exact w64 (by omega) | rfl)))) ?_
      refine .cons [50, 52, 46] rfl rfl rfl (.gg rfl rfl rfl (fun hg => (QW.index_sl (m := j - 1) sl88 ty116 rfl (.when rfl hg) (.when rfl hg) (by have hj0 : 0 < j := (by simp at hg; omega); omega) (by exact ItT.css_getE (l := l) fr (i := j - 1) (by omega))))) ?_
      refine .cons [53, 46] rfl rfl rfl (.gg rfl rfl rfl (fun hg => (QW.field_ref fo116_0 (.when rfl hg) rfl))) ?_
      refine .cons [54, 46] rfl rfl rfl (.gg rfl rfl rfl (fun hg => (QW.load_ref1 ty3 (.when rfl hg) rfl))) ?_
      refine .nil ?_
      refine JL.gg rfl rfl rfl rfl rfl (fun hg => (QW.leq (.when rfl hg) (.when rfl hg))) ?_
      refine JL.g rfl rfl rfl rfl rfl (fun hg => (by first | exact QW.pick_and (.when rfl hg) (.tmp rfl) | exact QW.pick_and2 hg (.when rfl hg) (.tmp rfl))) ?_
      refine JL.q rfl rfl rfl (QW.pick_or (.tmp rfl) (.tmp rfl)) ?_
      refine JL.q rfl rfl rfl (QW.move (.tmp rfl)) ?_
      refine JL.g rfl rfl rfl rfl rfl (fun hg => (QW.field_ptr fo116_1 (.tmp rfl) rfl)) ?_
      refine JL.g rfl rfl rfl rfl rfl (fun hg => (QW.field_ptr fo114_0 (.when rfl hg) rfl)) ?_
      refine JL.g rfl rfl rfl rfl rfl (fun hg => (QW.load_box1 0 ty9 (.when rfl hg) rfl rfl)) ?_
      refine JL.g rfl rfl rfl rfl rfl (fun hg => (QW.call gofn89 (.cons (.when rfl hg) .nil) (rname_ok _))) ?_
      refine JL.g rfl rfl rfl rfl rfl (fun hg => (QW.not (.when rfl hg))) ?_
      refine JL.q rfl rfl rfl (QW.pick_or (.tmp rfl) (.tmp rfl)) ?_
      refine JL.q rfl rfl rfl (QW.move (.tmp rfl)) ?_
      refine JL.g rfl rfl rfl rfl rfl (fun hg => (QW.field_ptr fo116_1 (.tmp rfl) rfl)) ?_
      refine JL.g rfl rfl rfl rfl rfl (fun hg => (QW.field_ptr fo114_1 (.when rfl hg) rfl)) ?_
      refine JL.g rfl rfl rfl rfl rfl (fun hg => (by first | exact QW.load_box 0 ty26 (.when rfl hg) rfl rfl rfl | exact QW.load_box 0 ty26 (.when rfl hg) rfl (take_at (V.cs_length _ _) rfl) (V.cs_length _ _))) ?_
      refine JL.g rfl rfl rfl rfl rfl (fun hg => (QW.call gofn25 (.cons (.when rfl hg) .nil) (rcheck_ok Vc.self (hit.2 _ (List.getElem_mem hlt)).ev.arg))) ?_
      refine JL.g rfl rfl rfl rfl rfl (fun hg => (QW.neq (.when rfl hg) .const)) ?_
      refine JL.q rfl rfl rfl (QW.pick_or (.tmp rfl) (.tmp rfl)) ?_
      refine JL.nil ?_
      refine thenQ.n ?_
      refine J.cond (.tmp rfl) (fun c3 => ?_) (fun c3 => ?_)
      · skip
        skip
        refine J.seq ?_
        refine J.region_lit ?_
        refine JL.q rfl rfl rfl (QW.assign .const) ?_
        refine JL.nil ?_
        refine thenQ.n ?_
        refine J.ret ?_
        refine blkQ.r ?_
        refine thenQ.r ?_
        refine thenQ.r ?_
        refine blkQ.r ?_
        refine thenQ.r ?_
        have hbad : ¬ idsOk la p (l.drop j) = true := by
          rw [idsOk_step hlt]
          intro hh
          simp only [Bool.and_eq_true, decide_eq_true_eq] at hh
          obtain ⟨⟨⟨g1, g2⟩, g3⟩, g4⟩ := hh
          unfold evOk at g3
          simp at g3 c3
          rcases Nat.eq_zero_or_pos j with h0 | h0
          · have := hp0 h0
            grind
          · have := hp1 _ h0 (List.getElem?_eq_getElem (by omega))
            grind
        exact ⟨_, selP [.k, .k] _, _, RetEv.one rfl (REv.tmp rfl (.refl _)), rfl, sel_perm [.k, .k] _, ⟨by rw [BT.err_of hb1 hb2, ha, if_neg hbad], rfl⟩⟩
      · skip
        have hst : idsOk la p (l.drop j) = idsOk la l[j].id (l.drop (j + 1)) := by
          rw [idsOk_step hlt]
          simp at c3
          have hpx : p < l[j].id := by
            rcases Nat.eq_zero_or_pos j with h0 | h0
            · have := hp0 h0; omega
            · have := hp1 _ h0 (List.getElem?_eq_getElem (by omega)); omega
          have hev : evOk l[j].ev = true := by unfold evOk; simp [c3]
          simp [hpx, hev]
          omega
        refine J.skip ?_
        refine blkQ.n ?_
        refine thenQ.n ?_
        refine J.region_lit ?_
        refine JL.q rfl rfl rfl (QW.move (.tmp rfl)) ?_
        refine JL.q rfl rfl rfl (QW.add (.tmp rfl) .const (by first | exact w64n (by first | rfl | omega | (simp; done)) (by omega) | exact w64 (by omega) | rfl)) ?_
        refine JL.q rfl rfl rfl (QW.assign (.tmp rfl)) ?_
        refine JL.nil ?_
        refine thenQ.n ?_
        exact ⟨⟨j + 1, l[j].id⟩, ⟨hlt, ha.trans hst, (fun h => absurd h (Nat.succ_ne_zero j)), (fun x _ hx => by rw [Nat.add_sub_cancel, List.getElem?_eq_getElem hlt] at hx; cases hx; rfl), by simp at c3; show 31 ≤ l[j].id; omega⟩, by show l.length - (j + 1) < l.length - j; omega, Wk.re (.cons rfl (.refl _) (.cons rfl (.refl _) .nil)) (Reown.dropN 1 _ rfl) (fun _ h => by first | exact h | simp [h])⟩
    · skip
      have hge : l.length ≤ j := by simpa [ItT.css_length] using c2
      refine J.exit ?_
      refine thenQ.x ?_
      refine thenQ.x ?_
      refine blkQ.hit ?_
      refine thenQ.n ?_
      refine J.seq ?_
      refine J.region_lit ?_
      refine JL.q rfl rfl rfl (QW.assign .const) ?_
      refine JL.nil ?_
      refine thenQ.n ?_
      refine J.ret ?_
      exact ⟨_, selP [.k] _, _, RetEv.one rfl (REv.tmp rfl (.refl _)), rfl, sel_perm [.k] _, ⟨by rw [BT.err_of hb1 hb2, ha, List.drop_of_length_le hge]; rfl, rfl⟩⟩

end Go.Proofs.Ytkiankpmkglhcaa.J

/- Walks: the program's copy of a box. -/
namespace Go.Proofs.Ytkiankpmkglhcaa.J
open Go Go.RowKit
set_option linter.unusedVariables false
set_option linter.unusedSimpArgs false
set_option maxRecDepth 10000
set_option maxHeartbeats 4000000

theorem cloneIt_ok {fr c : Bool} (xs : List (List AV)) (hr : xs.length * 104 ≤ reach) : AC Try.prog 125 [] [.sl fr c eIt xs] (RetR (CloneR eIt xs)) := by
  refine AC.of_J Try.func125 rfl Try.ntmps125 rfl fun w0 A0 => ?_
  refine J.seq ?_
  refine J.region_lit ?_
  refine JL.q rfl rfl rfl (QW.assign .const) ?_
  refine JL.nil ?_
  refine thenQ.n ?_
  refine J.seq ?_
  refine J.seq ?_
  refine J.region_lit ?_
  refine JL.q rfl rfl rfl (QW.move (.tmp rfl)) ?_
  refine JL.eqnil sl88 (.tmp rfl) .const rfl fun n4 hn4 => ?_
  refine JL.nil ?_
  refine thenQ.n ?_
  refine J.cond (.tmp rfl) (fun c1 => ?_) (fun c1 => ?_)
  · skip
    refine J.seq ?_
    refine J.reown (Reown.nilArrE eIt _) ?_
    refine J.region_lit ?_
    refine JL.q rfl rfl rfl (QW.assign .const) ?_
    refine JL.nil ?_
    refine thenQ.n ?_
    refine J.ret ?_
    refine thenQ.r ?_
    obtain rfl : xs = [] := hn4 c1
    exact ⟨_, selP [.p] _, _, RetEv.one rfl (REv.tmp rfl (.refl _)), rfl, sel_perm [.p] _, ⟨_, rfl, _, rfl, rfl, rfl⟩⟩
  · skip
    refine J.skip ?_
    refine thenQ.n ?_
    refine J.seq ?_
    refine J.region_lit ?_
    refine JL.buildSlice0 sl88 el116 rfl rfl fun v5 => ?_
    refine JL.q rfl rfl rfl (QW.move (.tmp rfl)) ?_
    refine JL.append 0 sl88 el116 rfl (.tmp rfl) rfl (srcA_sl sl88 (.tmp rfl)) (by simpa using hr) rfl fun v7 => ?_
    refine JL.isSlice 0 rfl fun hs1 => ?_
    refine JL.q rfl rfl rfl (QW.assign (.tmp rfl)) ?_
    refine JL.nil ?_
    refine thenQ.n ?_
    refine J.ret ?_
    exact ⟨_, selP [.p] _, _, RetEv.one rfl (REv.tmp rfl (.refl _)), rfl, sel_perm [.p] _, ⟨_, rfl, _, rfl, hs1, rfl⟩⟩

theorem clipIt_ok {fr c : Bool} (xs : List (List AV)) : Fn Try.prog 95 [.sl fr c eIt xs] (.sl fr true eIt xs) := by
  refine AC.of_J Try.func95 rfl Try.ntmps95 rfl fun w0 A0 => ?_
  refine J.seq ?_
  refine J.region_lit ?_
  refine JL.q rfl rfl rfl (QW.assign .const) ?_
  refine JL.nil ?_
  refine thenQ.n ?_
  refine J.seq ?_
  refine J.region_lit ?_
  refine JL.q rfl rfl rfl (QW.move (.tmp rfl)) ?_
  refine JL.q rfl rfl rfl (QW.move (.tmp rfl)) ?_
  refine JL.q rfl rfl rfl (by first | exact QW.len_slE sl88 (.tmp rfl) (ItT.css_length _ _) | exact QW.len_slE sl88 (.tmp rfl) (EvT.css_length _ _) | exact QW.len_sl sl88 (.tmp rfl) | exact QW.len_nil sl88 (.tmp rfl)) ?_
  refine JL.q rfl rfl rfl (QW.move (.tmp rfl)) ?_
  refine JL.q rfl rfl rfl (by first | exact QW.len_slE sl88 (.tmp rfl) (ItT.css_length _ _) | exact QW.len_slE sl88 (.tmp rfl) (EvT.css_length _ _) | exact QW.len_sl sl88 (.tmp rfl) | exact QW.len_nil sl88 (.tmp rfl)) ?_
  refine JL.q rfl rfl rfl (QW.slice3_H sl88 ty116 rfl (.tmp rfl) (.tmp rfl) (.tmp rfl) (by first | rfl | omega | (simp; done)) (by first | rfl | omega | (simp; done)) (Nat.le_refl _)) ?_
  refine JL.q rfl rfl rfl (QW.assign (.tmp rfl)) ?_
  refine JL.nil ?_
  refine thenQ.n ?_
  refine J.ret ?_
  exact ⟨_, selP [] _, _, RetEv.one rfl (REv.tmp rfl (.refl _)), rfl, sel_perm [] _, ⟨by rw [List.take_length], rfl⟩⟩

theorem it_get {l : List ItT} {j : Nat} (fr : Bool) (h : j < l.length) : (ItT.css true (l.take j) ++ ItT.css fr (l.drop j))[j]? = some (ItT.cs fr l[j]) := by
  have hc : (ItT.css true (l.take j)).length = j := by rw [ItT.css_length, List.length_take]; omega
  rw [List.getElem?_append_right (by omega), hc, Nat.sub_self, List.drop_eq_getElem_cons h]; rfl
theorem it_set {l : List ItT} {j : Nat} {fr : Bool} (h : j < l.length) : (ItT.css true (l.take j) ++ ItT.css fr (l.drop j)).set j (ItT.cs true l[j]) = ItT.css true (l.take (j + 1)) ++ ItT.css fr (l.drop (j + 1)) := by
  have hc : (ItT.css true (l.take j)).length = j := by rw [ItT.css_length, List.length_take]; omega
  rw [List.set_append_right _ _ (by omega), hc, Nat.sub_self, List.drop_eq_getElem_cons h, List.take_succ_eq_append_getElem h, ItT.css_append]
  simp only [ItT.css, List.map_cons, List.map_nil, List.set_cons_zero, List.append_assoc, List.cons_append, List.nil_append]

theorem bclone_own {fr : Bool} {q : BT} {ys : List AV} (hq : Bc fr q ys) (hw : q.wf) : AC Try.prog 97 [] [.agg ys] (RetR (BownR q)) := by
  obtain ⟨la, l⟩ := q
  subst hq
  obtain ⟨hl1, hit⟩ := hw
  have hw : (BT.mk la l).wf := ⟨hl1, hit⟩
  simp only at hl1 hit
  have hlen := hit.len
  refine AC.of_J Try.func97 rfl Try.ntmps97 rfl fun w0 A0 => ?_
  refine J.seq ?_
  refine J.region_lit ?_
  refine JL.box_agg (.tmp rfl) rfl fun b1 => ?_
  refine JL.alloc z92 rfl rfl fun b2 => ?_
  refine JL.nil ?_
  refine thenQ.n ?_
  refine J.seq ?_
  refine J.region_lit ?_
  refine JL.q rfl rfl rfl (QW.field_ptr fo92_1 (.tmp rfl) rfl) ?_
  refine JL.q rfl rfl rfl (QW.load_box1 1 ty88 (.tmp rfl) rfl rfl) ?_
  refine JL.callRF [] gofn125 rfl Lent.nil (fun _ => (.cons (.tmp rfl) .nil)) (cloneIt_ok _ (by rw [ItT.css_length]; exact hit.1)) (.inl rfl) fun x7 o7 h7 => ?_
  obtain ⟨v7, rfl, hs1, rfl⟩ := h7
  refine JL.q rfl rfl rfl (QW.field_ptr fo92_1 (.tmp rfl) rfl) ?_
  refine JL.store_box 1 ty88 (.tmp rfl) rfl (.tmp rfl) (by first | rfl | assumption) rfl rfl rfl rfl ?_
  refine JL.nil ?_
  refine thenQ.n ?_
  refine J.seq ?_
  refine J.seq ?_
  refine J.region_lit ?_
  refine JL.q rfl rfl rfl (QW.field_ptr fo92_1 (.tmp rfl) rfl) ?_
  refine JL.q rfl rfl rfl (QW.load_box1 1 ty88 (.tmp rfl) rfl rfl) ?_
  refine JL.q rfl rfl rfl (QW.len_arr 2 sl88 (.tmp rfl) rfl) ?_
  refine JL.q rfl rfl rfl (QW.move .const) ?_
  refine JL.nil ?_
  refine thenQ.n ?_
  refine J.block ?_
  refine J.loopK (ι := Nat) [1, 2, 10, 11] (fun j => [(12, .c (.int .i64 (j : Int)))]) (fun j oo => List.set oo 2 (.arr v7 eIt (ItT.css true (l.take j) ++ ItT.css fr (l.drop j)))) (fun j => j ≤ l.length) (fun j => l.length - j) 0 (Nat.zero_le _) (Wk.re (.cons rfl (.refl _) (.cons rfl (.refl _) (.cons rfl (.refl _) (.cons rfl (.refl _) (.cons rfl (.refl _) .nil))))) (Reown.refl _) (fun _ h => by first | exact h | simp [h])) ?_
  intro j hj
  refine J.conv (by (try simp only [stepsO, List.map_cons, List.map_nil, valO, nthO, curO, mrg, List.reverse_cons, List.reverse_nil, List.nil_append, List.cons_append, List.append_nil, List.getElem?_cons_zero, List.getElem?_cons_succ, Option.map_some, Option.getD_some, List.set_cons_zero, List.set_cons_succ, AV.cellsOf, splice_zero, splice_succ, Nat.zero_add, Nat.reduceAdd]); rfl) ?_
  refine J.seq ?_
  refine J.region_lit ?_
  refine JL.q rfl rfl rfl (QW.lss (.tmp rfl) (.tmp rfl)) ?_
  refine JL.nil ?_
  refine thenQ.n ?_
  refine J.seq ?_
  refine J.cond (.tmp rfl) (fun c1 => ?_) (fun c1 => ?_)
  · skip
    have hlt : j < l.length := by (simp [ItT.css_length] at c1; omega)
    refine J.skip ?_
    refine thenQ.n ?_
    refine J.seq ?_
    refine J.block ?_
    refine J.seq ?_
    refine J.region_lit ?_
    refine JL.q rfl rfl rfl (QW.move (.tmp rfl)) ?_
    refine JL.q rfl rfl rfl (QW.index_arr 2 sl88 ty116 rfl (.tmp rfl) rfl (.tmp rfl) (by first | rfl | omega | (simp; done)) (by simp [ItT.css_length]; omega) rfl) ?_
    refine JL.q rfl rfl rfl (by first | exact QW.load_gp 2 ty116 (.tmp rfl) rfl (by exact it_get _ hlt) rfl rfl rfl | exact QW.load_gp (o := 0) 2 ty116 (.tmp rfl) rfl (by exact it_get _ hlt) rfl rfl rfl | exact QW.load_gp (o := 1) 2 ty116 (.tmp rfl) rfl (by exact it_get _ hlt) rfl rfl rfl | exact QW.load_gp (o := 2) 2 ty116 (.tmp rfl) rfl (by exact it_get _ hlt) rfl rfl rfl | exact QW.load_gp 2 ty116 (.tmp rfl) rfl (by exact it_get _ hlt) rfl (take_full (ItT.cs_length _ _)) (ItT.cs_length _ _)) ?_
    refine JL.alloc z116 rfl rfl fun b4 => ?_
    refine JL.q rfl rfl rfl (QW.assign (.tmp rfl)) ?_
    first | refine JL.store_boxF 0 ty116 (.tmp rfl) rfl (.tmp rfl) (by first | rfl | assumption) (rfl) (rfl) rfl ?_ | refine JL.store_boxF 0 ty116 (.tmp rfl) rfl (.tmp rfl) (by first | rfl | assumption) (rfl) (ItT.cs_length _ _) rfl ?_ | refine JL.store_boxF 0 ty116 (.tmp rfl) rfl (.tmp rfl) (by first | rfl | assumption) (ItT.cs_length _ _) (rfl) rfl ?_ | refine JL.store_boxF 0 ty116 (.tmp rfl) rfl (.tmp rfl) (by first | rfl | assumption) (ItT.cs_length _ _) (ItT.cs_length _ _) rfl ?_ | refine JL.store_box 0 ty116 (.tmp rfl) rfl (.tmp rfl) (by first | rfl | assumption) rfl rfl rfl rfl ?_ | refine JL.store_box 0 ty116 (.tmp rfl) rfl (.tmp rfl) (by first | rfl | assumption) (ItT.cs_length _ _) rfl rfl rfl ?_
    refine JL.nil ?_
    refine thenQ.n ?_
    refine J.region_tailK 7 mixed (by kernel_rfl) (by kernel_rfl) (by kernel_rfl) rfl ?_
    refine .cons [] rfl rfl rfl (.q rfl (QW.field_ptr fo92_1 (.tmp rfl) rfl)) ?_
    refine .cons [17] rfl rfl rfl (.q rfl (QW.load_box1 2 ty88 (.tmp rfl) rfl rfl)) ?_
    refine .cons [] rfl rfl rfl (.q rfl (QW.move (.tmp rfl))) ?_
    refine .cons [] rfl rfl rfl (.q rfl (QW.field_ptr fo116_1 (.tmp rfl) rfl)) ?_
    refine .cons [20] rfl rfl rfl (.q rfl (QW.field_ptr fo114_1 (.tmp rfl) rfl)) ?_
    refine .cons [21] rfl rfl rfl (.q rfl (by first | exact QW.load_box 0 ty26 (.tmp rfl) rfl rfl rfl | exact QW.load_box 0 ty26 (.tmp rfl) rfl (take_at (V.cs_length _ _) rfl) (V.cs_length _ _))) ?_
    refine .cons [22] rfl rfl rfl (.q rfl (QW.call gofn77 (.cons (.tmp rfl) .nil) (clone_rd Vc.self (hit.2 _ (List.getElem_mem hlt)).ev.arg))) ?_
    refine .nil ?_
    refine JL.q rfl rfl rfl (QW.index_arr 3 sl88 ty116 rfl (.tmp rfl) rfl (.tmp rfl) (by first | rfl | omega | (simp; done)) (by simp [ItT.css_length]; omega) rfl) ?_
    refine JL.q rfl rfl rfl (QW.field_gp fo116_1 (.tmp rfl) rfl) ?_
    refine JL.q rfl rfl rfl (QW.field_gp fo114_1 (.tmp rfl) rfl) ?_
    refine JL.store_gp (o := 2) 3 ty26 (.tmp rfl) rfl (it_get fr hlt) rfl (.tmp rfl) rfl (V.cs_length _ _) rfl ((congrArg (List.set _ _) splice_it2).trans (it_set hlt)) rfl ?_
    refine JL.nil ?_
    refine blkQ.n ?_
    refine thenQ.n ?_
    refine J.region_lit ?_
    refine JL.q rfl rfl rfl (QW.add (.tmp rfl) .const (by first | exact w64n (by first | rfl | omega | (simp; done)) (by omega) | exact w64 (by omega) | rfl)) ?_
    refine JL.q rfl rfl rfl (QW.move (.tmp rfl)) ?_
    refine JL.nil ?_
    refine thenQ.n ?_
    exact ⟨j + 1, hlt, by omega, Wk.re (.cons rfl (.refl _) (.cons rfl (.refl _) (.cons rfl (.refl _) (.cons rfl (.refl _) (.cons rfl (.refl _) .nil))))) (Reown.dropN 1 _ rfl) (fun _ h => by first | exact h | simp [h])⟩
  · skip
    have hge : l.length ≤ j := by (simp [ItT.css_length] at c1; omega)
    refine J.exit ?_
    refine thenQ.x ?_
    refine thenQ.x ?_
    refine blkQ.hit ?_
    refine thenQ.n ?_
    refine J.seq ?_
    refine J.region_lit ?_
    refine JL.q rfl rfl rfl (by first | exact QW.load_box 1 ty92 (.tmp rfl) rfl rfl rfl | exact QW.load_box 1 ty92 (.tmp rfl) rfl (take_at (BT.cs_length _ _) rfl) (BT.cs_length _ _)) ?_
    first | refine JL.store_boxF 0 ty92 (.tmp rfl) rfl (.tmp rfl) (by first | rfl | assumption) (rfl) (rfl) rfl ?_ | refine JL.store_boxF 0 ty92 (.tmp rfl) rfl (.tmp rfl) (by first | rfl | assumption) (rfl) (BT.cs_length _ _) rfl ?_ | refine JL.store_boxF 0 ty92 (.tmp rfl) rfl (.tmp rfl) (by first | rfl | assumption) (BT.cs_length _ _) (rfl) rfl ?_ | refine JL.store_boxF 0 ty92 (.tmp rfl) rfl (.tmp rfl) (by first | rfl | assumption) (BT.cs_length _ _) (BT.cs_length _ _) rfl ?_ | refine JL.store_box 0 ty92 (.tmp rfl) rfl (.tmp rfl) (by first | rfl | assumption) rfl rfl rfl rfl ?_ | refine JL.store_box 0 ty92 (.tmp rfl) rfl (.tmp rfl) (by first | rfl | assumption) (BT.cs_length _ _) rfl rfl rfl ?_
    refine JL.nil ?_
    refine thenQ.n ?_
    refine J.ret ?_
    obtain rfl : j = l.length := by omega
    rw [List.take_length, List.drop_length]
    exact ⟨_, selP [.k, .k, .p] _, _, RetEv.one rfl (by first | exact REv.cell 0 ty92 rfl rfl rfl rfl (.refl _) | exact REv.cell 0 ty92 rfl rfl (take_at (BT.cs_length _ _) rfl) (BT.cs_length _ _) (.refl _)), rfl, sel_perm [.k, .k, .p] _, ⟨_, rfl, _, rfl, hs1, by simp [ItT.css]; rfl⟩⟩

theorem bclone_ok {fr : Bool} {q : BT} {ys : List AV} (hq : Bc fr q ys) (hw : q.wf) : Fn Try.prog 97 [.agg ys] q.av := .ofBown hw.it (bclone_own hq hw)
theorem rbown_rd {fr : Bool} {q : BT} {ys : List AV} (hq : Bc fr q ys) (hw : q.wf) : Fn Try.prog 98 [.agg ys] q.av := .ofBown hw.it (rbown_ok hq hw)

end Go.Proofs.Ytkiankpmkglhcaa.J

/- Fields of structs that are values, elements of arrays that are values. -/
namespace Go.Proofs.Ytkiankpmkglhcaa.J
open Go Go.RowKit
set_option linter.unusedVariables false
set_option linter.unusedSimpArgs false

/-- A field's type and place. -/
def fieldTy (P : Program) (s : TypeId) (f : Nat) : Option (TypeId × Nat) :=
  match P.underlying s with
  | some (.struct fs) => fs[f]?.map fun fd => (fd.type, fd.offset)
  | _ => none
section
variable {P : Program} {E : Ent} {st : St} {t t' et ty : TypeId} {pos : String} {af : Array Edge} {dd : Option Tmp} {gd : Option (Nat × Bool)} {x y : Operand} {w : World} {n B : Nat}
theorem fieldTy_get {s : TypeId} {f o : Nat} (h : fieldTy P s f = some (t', o)) : ∃ fs fd, P.underlying s = some (.struct fs) ∧ fs[f]? = some fd ∧ fd.type = t' ∧ fd.offset = o := by
  unfold fieldTy at h
  split at h
  · rename_i fs hu
    rw [Option.map_eq_some_iff] at h
    obtain ⟨fd, h1, h2⟩ := h
    exact ⟨fs, fd, hu, h1, (Prod.mk.inj h2).1, (Prod.mk.inj h2).2⟩
  · cases h
theorem run_part1 {cs : Array Value} {off : Nat} {v : Value} (hT : tySz P t' = some (false, n, B)) (hx : cs[off]? = some v) : (part t' cs off).run P w = .ok v w := by
  simp only [part, Sem.run_bind, run_isAgg hT, Result.andThen_ok, Bool.false_eq_true, if_false, hx, Sem.run_pure]
theorem run_partA {cs : Array Value} {off : Nat} (hT : tySz P t' = some (true, n, B)) : (part t' cs off).run P w = .ok (.agg (cs.extract off (off + n))) w := by
  simp only [part, Sem.run_bind, run_isAgg hT, Result.andThen_ok, if_true, run_sizeOf hT, Sem.run_pure]
theorem Rd.part {A : Foot} {vs : Array Value} {ys : List AV} {off : Nat} (hn : vs.size = ys.length) (h : Cells w A vs 0 ys) (hle : off + n ≤ ys.length) : Rd w A (.agg (vs.extract off (off + n))) (.agg ((ys.drop off).take n)) := by
  refine .mk_agg (by simp; omega) fun k y hk => ?_
  rw [List.getElem?_take] at hk
  split at hk
  · rename_i hlt
    rw [List.getElem?_drop] at hk
    obtain ⟨u, h1, h0, h2⟩ := h _ y hk
    rw [Nat.zero_add] at h1 ⊢
    exact ⟨u, by rw [Array.getElem?_extract, if_pos (by omega)]; exact h1, h0, h2⟩
  · cases hk
theorem QW.field1 {ys : List AV} {f o : Nat} {z : AV} (hF : fieldTy P t f = some (t', o)) (hT : tySz P t' = some (false, n, B)) (h : Ev E st x (.agg ys)) (hz : ys[o]? = some z) : QW P E st ⟨dd, .field t x f, ty, pos, af, gd⟩ z := .pure fun A a w hs => by
  obtain ⟨fs, fd, hu, hfd, h1, h2⟩ := fieldTy_get hF
  obtain ⟨vs, hv, hn, hc⟩ := (h A a w hs).of_agg
  obtain ⟨u, k1, _, k2⟩ := hc o z hz
  rw [Nat.zero_add] at k1
  subst h1 h2
  exact ⟨u, by simp [execOp, Instr.field, run_underlying _ hu, hfd, hv, asAgg, run_part1 hT k1], k2⟩
theorem QW.fieldA {ys zs : List AV} {f o : Nat} (hF : fieldTy P t f = some (t', o)) (hT : tySz P t' = some (true, n, B)) (h : Ev E st x (.agg ys)) (hz : (ys.drop o).take n = zs) (hl : zs.length = n) (h0 : Nat.blt 0 n = true := by rfl) : QW P E st ⟨dd, .field t x f, ty, pos, af, gd⟩ (.agg zs) := .pure fun A a w hs => by
  obtain ⟨fs, fd, hu, hfd, h1, h2⟩ := fieldTy_get hF
  obtain ⟨vs, hv, hn, hc⟩ := (h A a w hs).of_agg
  subst h1 h2 hz
  have hp := blt_lt h0
  refine ⟨_, by simp [execOp, Instr.field, run_underlying _ hu, hfd, hv, asAgg, run_partA hT], Rd.part hn hc ?_⟩
  rw [List.length_take, List.length_drop] at hl; omega
/-- An element of an array's value. -/
theorem QW.indexA {ys zs : List AV} {ln m : Nat} {k : IntKind} {i : Int} (hU : P.underlying t = some (.array ln et)) (hT : tySz P et = some (true, n, B)) (h : Ev E st x (.agg ys)) (hi : Ev E st y (.c (.int k i))) (him : i = (m : Int)) (hm : m < ln) (hz : (ys.drop (m * n)).take n = zs) (hl : zs.length = n) (h0 : Nat.blt 0 n = true := by rfl) :
    QW P E st ⟨dd, .index t x y, ty, pos, af, gd⟩ (.agg zs) := .pure fun A a w hs => by
  obtain ⟨vs, hv, hn, hc⟩ := (h A a w hs).of_agg
  subst him hz
  have hlt : (m : Int) < (ln : Int) := by omega
  have hp := blt_lt h0
  refine ⟨_, by simp [execOp, Instr.index, asIntOf, asInt, hi.eq hs, run_underlying _ hU, hv, run_sizeOf hT, run_partA hT, hm], Rd.part hn hc ?_⟩
  rw [List.length_take, List.length_drop] at hl; omega
end

/-! ### appends onto a slice that is read alone and has no spare places, or onto an own array -/
section
variable {P : Program} {E : Ent} {Q : Exit → St → Prop} {n : Nat} {env : List (Nat × AV)} {own : List Own} {F : List (Value × AV)} {D : List Deferred} {ops : Array Oper} {rest : List Oper} {c : Code}
variable {A : Foot} {a : Act} {w w' : World} {t tx et ty : TypeId} {pos : String} {af : Array Edge} {d : Nat} {dd : Option Tmp} {gd : Option (Nat × Bool)} {s x : Operand}
theorem JL.appendC (i : Nat) {fr : Bool} {e : ETy} {xs ys : List (List AV)} (hU : P.underlying t = some (.slice et)) (hE : elemB P et e = true) (hb0 : Nat.blt 0 e.bytes = true) (hsv : Ev E ⟨n, env, own, F, D⟩ s (.sl fr true e xs))
    (ho : own[i]? = some (.grp [])) (hx : ∀ A a w, SatA E A ⟨n, env, own, F, D⟩ a w → SrcA P w A tx (a.eval x) e ys) (hne : 0 < ys.length) (hreach : (xs.length + ys.length) * e.bytes ≤ reach) (hd : Nat.blt d n = true)
    (h : ∀ v', JL P E ops rest ⟨n, (d, .c v') :: env, own.set i (.arr v' e (xs ++ ys)), F, D⟩ Q) :
    JL P E ops (⟨some d, .call ⟨.builtin .append, #[s, x], #[t, tx]⟩, ty, pos, af, none⟩ :: rest) ⟨n, env, own, F, D⟩ Q := fun a w ⟨A, hA⟩ => by
  refine wpListIn_plain rfl fun K hK => ?_
  refine wpR (by intro c h; cases h) ?_
  unfold Oper.wp
  obtain ⟨ti, tz, hi, hsz, hby, hz, hzs, hz1⟩ := elemB_get hE
  obtain ⟨news, hsrc, hnc, hyl⟩ := hx A a w hA
  rw [← hsz] at hsrc
  have hb1 : 1 ≤ e.bytes := blt_lt hb0
  have hneed : xs.length + ys.length ≤ reach := Nat.le_trans (Nat.le_mul_of_pos_right _ hb1) hreach
  unfold reach at hneed hreach
  have hnl : news.length = ys.flatten.length := by rw [hsrc.newsLen, hsz, flatten_length ys hyl]
  have h63 : ((xs.length + ys.length : Nat) : Int) ≤ 9223372036854775807 := by omega
  have hfit : ∀ sCap, sCap < xs.length + ys.length → Builtin.nextslicecap (xs.length + ys.length) sCap * ti.bytes ≤ 281474976710656 := fun sCap hlt => growslice_fits hlt (by rw [hby]; omega)
  have hgw : ∀ fr b, A fr b → b < w.heap.size → ∀ o, (World.pushed (World.drawnBy w) o).heap[b]? = w.heap[b]? := fun fr b _ hlt o => (Keep.push [] (World.drawnBy w) o).block b hlt (by simp)
  obtain ⟨ad, cap, hv, hcl, _, hc⟩ := (hsv A a w hA).of_sl
  have hcap := hcl rfl
  subst hcap
  have hold : ∃ olds : List Value, (Builtin.firstCells ti.size xs.length (.slice ad xs.length xs.length)).run P w.drew = .ok olds.toArray w.drew ∧ olds.length = xs.flatten.length ∧ (∀ x ∈ xs, x.length = e.sz) ∧ Cells w A olds.toArray 0 xs.flatten := by
    rcases hc with rfl | ⟨b, off, cs, t', fz, rfl, hAb, hb, hxl, _, hc⟩
    · refine ⟨[], ?_, by simp, (fun _ h => by cases h), fun k y hk => by simp at hk⟩
      cases ad with
      | none => exact run_firstCells_none w.drew ti.size 0 0 0
      | some a' => exact run_firstCells_some w.drew ti.size 0 a' 0 0 [] (by simp) (by intro _ _ h'; simp at h')
    · have hfl := flatten_length xs hxl
      have hb' : w.drew.heap[b]? = some (.cells cs t' fz) := hb
      obtain ⟨vs, g1, g2, g3⟩ := cells_part (w := w) (o2 := 0) (mm := xs.flatten.length) hc hb (by omega)
      obtain ⟨vs', g1', g2', _⟩ := cells_part (w := w.drew) (A := A) (o2 := 0) (mm := xs.flatten.length) (hc.move (fun _ _ h _ => h) fun _ _ _ _ => rfl) hb' (by omega)
      rw [List.drop_zero, List.take_length] at g3
      refine ⟨vs, run_firstCells_some w.drew ti.size xs.length ⟨b, off, none⟩ xs.length xs.length vs (by rw [g1, hfl, hsz]) (fun j u hj => by
        have := g2 j u (by simpa using hj)
        rw [Nat.add_zero] at this
        exact this), g1, hxl, g3⟩
  obtain ⟨olds, hold, hol, hxl, hoc⟩ := hold
  have hlt : xs.length < xs.length + ys.length := by omega
  have hr := run_append_grow_src (P := P) w t tx ty et ti tz hU hi hz ad xs.length xs.length olds hold (a.eval x) ys.length news hsrc hlt h63 (hfit _ hlt)
  have hge := grownCap_ge w (xs.length + ys.length) xs.length et
  rw [run_builtin_append hv rfl hr, Oper.upon_value, alloc_eq]
  refine hK _ _ (h _ _ _ ⟨A, SatA.put ?_ (blt_lt hd) (.c _)⟩)
  have hd' := hA.draw
  obtain ⟨cap, hcap⟩ : ∃ cap, grownCap w (xs.length + ys.length) xs.length et = cap + 1 := ⟨grownCap w (xs.length + ys.length) xs.length et - 1, by omega⟩
  have hxy : (xs ++ ys).length = xs.length + ys.length := by simp
  refine hd'.step (.push _ _ _) (fun _ _ h => h) (hd'.hp.moved hd'.keep.size ho (o' := .arr _ e (xs ++ ys)) ?_ (.inr ⟨w.heap.size, cap, _, et, by rw [hxy, hcap], heap_pushed _ _, by omega, ?_, ?_, ?_⟩))
  · rw [hcap]; rfl
  · refine RowOf.grown ?_ (hoc.ones hol) hsrc.one hz1
    have hol' := flatten_length xs hxl
    have hyl' := flatten_length ys hyl
    simp only [Array.size_append, List.size_toArray, List.length_append, size_zeroCells, hzs, hol, hnl, hol', hyl', hcap]
    rw [← Nat.add_mul, ← Nat.add_mul]
    congr 1; omega
  · intro z hz'
    rcases List.mem_append.1 hz' with hz' | hz'
    · exact hxl z hz'
    · exact hyl z hz'
  · rw [List.flatten_append]
    intro k y hk
    rw [Nat.zero_add]
    by_cases hk1 : k < xs.flatten.length
    · rw [List.getElem?_append_left hk1] at hk
      obtain ⟨u, h1, h0, h2⟩ := hoc k y hk
      refine ⟨u, ?_, h0, h2.move (fun _ _ h _ => h) fun fr b hb hlt => hgw fr b hb hlt _⟩
      rw [Nat.zero_add] at h1
      rw [Array.getElem?_append_left (by simp; omega)]
      simp only [List.getElem?_toArray] at h1 ⊢
      rw [List.getElem?_append_left (by omega)]; exact h1
    · rw [List.getElem?_append_right (by omega)] at hk
      have hk2 := (List.getElem?_eq_some_iff.1 hk).1
      obtain ⟨u, h1, h0, h2⟩ := hnc _ y hk
      refine ⟨u, ?_, h0, h2.move (fun _ _ h _ => h) fun fr b hb hlt => hgw fr b hb hlt _⟩
      rw [Nat.zero_add] at h1
      rw [Array.getElem?_append_left (by simp; omega)]
      simp only [List.getElem?_toArray] at h1 ⊢
      rw [List.getElem?_append_right (by omega), hol]; exact h1

/-- A slice of xs that may be appended to: it is read alone and has no spare places, or it is an own array. -/
def AppOk (e : ETy) (x : AV) (o : Own) (xs : List (List AV)) : Prop := (∃ fr, x = .sl fr true e xs ∧ o = .grp []) ∨ ∃ v, x = .c v ∧ o = .arr v e xs
theorem JL.appendM (i : Nat) {z : AV} {o : Own} {e : ETy} {xs ys : List (List AV)} (hok : AppOk e z o xs) (hU : P.underlying t = some (.slice et)) (hE : elemB P et e = true) (hb0 : Nat.blt 0 e.bytes = true) (hsv : Ev E ⟨n, env, own, F, D⟩ s z)
    (ho : own[i]? = some o) (hx : ∀ A a w, SatA E A ⟨n, env, own, F, D⟩ a w → SrcA P w A tx (a.eval x) e ys) (hne : 0 < ys.length) (hreach : (xs.length + ys.length) * e.bytes ≤ reach) (hd : Nat.blt d n = true)
    (h : ∀ v', JL P E ops rest ⟨n, (d, .c v') :: env, own.set i (.arr v' e (xs ++ ys)), F, D⟩ Q) :
    JL P E ops (⟨some d, .call ⟨.builtin .append, #[s, x], #[t, tx]⟩, ty, pos, af, none⟩ :: rest) ⟨n, env, own, F, D⟩ Q := by
  rcases hok with ⟨fr, rfl, rfl⟩ | ⟨v, rfl, rfl⟩
  · exact JL.appendC i hU hE hb0 hsv ho hx hne hreach hd h
  · exact JL.append i hU hE hb0 hsv ho hx hreach hd h
theorem QW.lenM (i : Nat) {z : AV} {o : Own} {e : ETy} {xs : List (List AV)} (hok : AppOk e z o xs) (hU : P.underlying t = some (.slice et)) (h : Ev E ⟨n, env, own, F, D⟩ x z) (ho : own[i]? = some o) : QW P E ⟨n, env, own, F, D⟩ ⟨dd, .call ⟨.builtin .len, #[x], #[t]⟩, ty, pos, af, gd⟩ (.c (.int .i64 (xs.length : Int))) := by
  rcases hok with ⟨fr, rfl, rfl⟩ | ⟨v, rfl, rfl⟩
  · exact QW.len_sl hU h
  · exact QW.len_arr i hU h ho
/-- It is given up: it reads. -/
theorem J.closeM (i : Nat) {z : AV} {o : Own} {e : ETy} {xs : List (List AV)} {own' : List Own} (hok : AppOk e z o xs) (ho : own[i]? = some o) (hr : xs.length * e.bytes ≤ reach) (he : own.eraseIdx i = own') (hfp : ∀ b ∈ E.fp0, b ∈ fps own')
    (h : ∀ F' clip fr, (∀ p ∈ F, p ∈ F') → Le F' z (.sl fr clip e xs) → J P E c ⟨n, env, own', F', D⟩ Q) : J P E c ⟨n, env, own, F, D⟩ Q := by
  rcases hok with ⟨fr, rfl, rfl⟩ | ⟨v, rfl, rfl⟩
  · refine J.reown (own' := own') ?_ (h F true fr (fun _ h => h) (.refl _))
    have := (Reown.perm (perm_pick ho)).trans (Reown.dropN 1 _ rfl)
    rw [← he]
    exact this
  · exact J.closeArr i ho hr he hfp (h _ false true (fun _ h => List.mem_cons_of_mem _ h) (.fact (List.mem_cons_self) (.refl _)))
end
section
variable {P : Program} {E : Ent} {st : St} {ty : TypeId} {pos : String} {af : Array Edge} {dd : Option Tmp} {gd : Option (Nat × Bool)} {x y z : Operand}
theorem QW.max3 {k : IntKind} {a b c m : Int} {tys : Array TypeId} (hx : Ev E st x (.c (.int k a))) (hy : Ev E st y (.c (.int k b))) (hz : Ev E st z (.c (.int k c))) (hm : (if c > (if b > a then b else a) then c else (if b > a then b else a)) = m) :
    QW P E st ⟨dd, .call ⟨.builtin .max, #[x, y, z], tys⟩, ty, pos, af, gd⟩ (.c (.int k m)) := .pure fun A act w hs => by
  subst hm
  exact ⟨_, by simp [execOp, resolve, invoke, builtin, Builtin.max_, hx.eq hs, hy.eq hs, hz.eq hs, Builtin.max2], .c _⟩
end
theorem perm_mid {α : Type} (a b : List α) (x : α) : ((a ++ b) ++ [x]).Perm ((a ++ [x]) ++ b) := by
  rw [List.append_assoc, List.append_assoc]
  exact List.Perm.append_left a List.perm_append_comm
end Go.Proofs.Ytkiankpmkglhcaa.J

/- Walks: the first that wait; an event's effects. -/
namespace Go.Proofs.Ytkiankpmkglhcaa.J
open Go Go.RowKit
set_option linter.unusedVariables false
set_option linter.unusedSimpArgs false
set_option maxRecDepth 10000
set_option maxHeartbeats 4000000

theorem BT.err_ok {q : BT} : q.err = 0 ↔ q.ok = true := by unfold BT.err; cases q.ok <;> simp
theorem BT.err_no {q : BT} (h : ¬ q.err = 0) : q.ok = false ∧ q.err = 9 := by unfold BT.err at *; cases hq : q.ok <;> simp_all
theorem BT.ok_inv {q : BT} (h : q.ok = true) : 0 ≤ q.last ∧ q.last ≤ 1099511627776 ∧ q.items.length ≤ 256 ∧ idsOk q.last 31 q.items = true := by
  unfold BT.ok at h; simp only [Bool.and_eq_true, decide_eq_true_eq] at h
  exact ⟨h.1.1.1, h.1.1.2, h.1.2, h.2⟩
def nextAV (q : BT) (n : Int) : AV := .tup [itsAV (q.next n).1, .c (.int .i64 (q.next n).2)]
theorem nextAV_of {q : BT} {n f : Int} {l : List ItT} (h : q.next n = (l, f)) : nextAV q n = .tup [itsAV l, .c (.int .i64 f)] := by simp [nextAV, h]
def badAV (q : BT) (f : Int) : AV := .tup [q.av, .c (.int .i64 f)]
def addAV (q : BT) (seq : Int) (l : List EvT) : AV := .tup [(q.add seq l).1.av, .c (.int .i64 (q.add seq l).2)]
theorem addAV_of {q q' : BT} {seq f : Int} {l : List EvT} (h : q.add seq l = (q', f)) : addAV q seq l = .tup [q'.av, .c (.int .i64 f)] := by simp [addAV, h]
def ackAV (q : BT) (id : Int) : AV := .tup [(q.ack id).1.av, .c (.bool (q.ack id).2.1), .c (.int .i64 (q.ack id).2.2)]
theorem ackAV_of {q q' : BT} {id f : Int} {b : Bool} (h : q.ack id = (q', b, f)) : ackAV q id = .tup [q'.av, .c (.bool b), .c (.int .i64 f)] := by simp [ackAV, h]
theorem BT.wf.take {la : Int} {l : List ItT} (h : (BT.mk la l).wf) (k : Nat) : (BT.mk la (l.take k)).wf := ⟨h.l1, h.it.take k⟩

theorem take_min {α : Type} (l : List α) (k : Nat) : l.take (min k l.length) = l.take k := by
  by_cases h : k ≤ l.length
  · rw [Nat.min_eq_left h]
  · rw [Nat.min_eq_right (by omega), List.take_length, List.take_of_length_le (by omega)]

theorem bnext_ok {fr : Bool} {q : BT} {ys : List AV} (hq : Bc fr q ys) (n : Int) (hw : q.wf) : Fn Try.prog 58 [.agg ys, .c (.int .i64 n)] (nextAV q n) := by
  obtain ⟨la, l⟩ := q
  subst hq
  obtain ⟨hl1, hit⟩ := hw
  have hw : (BT.mk la l).wf := ⟨hl1, hit⟩
  simp only at hl1 hit
  have hlen := hit.len
  refine AC.of_J Try.func58 rfl Try.ntmps58 rfl fun w0 A0 => ?_
  refine J.seq ?_
  refine J.region_lit ?_
  refine JL.box_agg (.tmp rfl) rfl fun b2 => ?_
  refine JL.q rfl rfl rfl (QW.assign .const) ?_
  refine JL.q rfl rfl rfl (QW.assign .const) ?_
  refine JL.nil ?_
  refine thenQ.n ?_
  refine J.seq ?_
  refine J.seq ?_
  refine J.region_lit ?_
  refine JL.q rfl rfl rfl (by first | exact QW.load_box 0 ty92 (.tmp rfl) rfl rfl rfl | exact QW.load_box 0 ty92 (.tmp rfl) rfl (take_at (BT.cs_length _ _) rfl) (BT.cs_length _ _)) ?_
  refine JL.q rfl rfl rfl (QW.call gofn63 (.cons (.tmp rfl) .nil) (bcheck_ok Bc.mk hw)) ?_
  refine JL.q rfl rfl rfl (QW.assign (.tmp rfl)) ?_
  refine JL.nil ?_
  refine thenQ.n ?_
  refine J.seq ?_
  refine J.region_lit ?_
  refine JL.q rfl rfl rfl (QW.move (.tmp rfl)) ?_
  refine JL.q rfl rfl rfl (QW.neq (.tmp rfl) .const) ?_
  refine JL.nil ?_
  refine thenQ.n ?_
  refine J.cond (.tmp rfl) (fun c1 => ?_) (fun c1 => ?_)
  · skip
    simp at c1
    obtain ⟨hno, he9⟩ := BT.err_no c1
    refine J.seq ?_
    refine J.region_lit ?_
    refine JL.q rfl rfl rfl (QW.move (.tmp rfl)) ?_
    refine JL.q rfl rfl rfl (QW.assign .const) ?_
    refine JL.q rfl rfl rfl (QW.assign (.tmp rfl)) ?_
    refine JL.nil ?_
    refine thenQ.n ?_
    refine J.ret ?_
    refine thenQ.r ?_
    exact ⟨_, selP [.k] _, _, RetEv.two rfl (REv.tmp rfl (.nil true false eIt)) (REv.tmp rfl (.refl _)), rfl, sel_perm [.k] _, ⟨congrArg Res.ret (nextAV_of (q := ⟨la, l⟩) (n := n) (l := []) (f := (BT.mk la l).err) (by simp [BT.next, hno, he9])).symm, rfl⟩⟩
  · skip
    simp at c1
    have hok := BT.err_ok.1 c1
    obtain ⟨o1, o2, o3, o4⟩ := BT.ok_inv hok
    simp only at o1 o2 o3 o4
    refine J.skip ?_
    refine thenQ.n ?_
    refine J.seq ?_
    refine J.seq ?_
    refine J.region_lit ?_
    refine JL.q rfl rfl rfl (QW.move (.tmp rfl)) ?_
    refine JL.q rfl rfl rfl (QW.lss (.tmp rfl) .const) ?_
    refine JL.nil ?_
    refine thenQ.n ?_
    refine J.cond (.tmp rfl) (fun c2 => ?_) (fun c2 => ?_)
    · skip
      simp at c2
      refine J.seq ?_
      refine J.region_lit ?_
      refine JL.q rfl rfl rfl (QW.assign .const) ?_
      refine JL.q rfl rfl rfl (QW.assign .const) ?_
      refine JL.nil ?_
      refine thenQ.n ?_
      refine J.ret ?_
      refine thenQ.r ?_
      exact ⟨_, selP [.k] _, _, RetEv.two rfl (REv.tmp rfl (.nil true false eIt)) (REv.tmp rfl (.refl _)), rfl, sel_perm [.k] _, ⟨congrArg Res.ret (nextAV_of (q := ⟨la, l⟩) (n := n) (l := []) (f := 4) (by simp [BT.next, hok]; omega)).symm, rfl⟩⟩
    · skip
      simp at c2
      refine J.skip ?_
      refine thenQ.n ?_
      refine J.seq ?_
      refine J.region_lit ?_
      refine JL.q rfl rfl rfl (QW.field_ptr fo92_1 (.tmp rfl) rfl) ?_
      refine JL.q rfl rfl rfl (QW.load_box1 0 ty88 (.tmp rfl) rfl rfl) ?_
      refine JL.q rfl rfl rfl (QW.move (.tmp rfl)) ?_
      refine JL.q rfl rfl rfl (QW.field_ptr fo92_1 (.tmp rfl) rfl) ?_
      refine JL.q rfl rfl rfl (QW.load_box1 0 ty88 (.tmp rfl) rfl rfl) ?_
      refine JL.q rfl rfl rfl (by first | exact QW.len_slE sl88 (.tmp rfl) (ItT.css_length _ _) | exact QW.len_slE sl88 (.tmp rfl) (EvT.css_length _ _) | exact QW.len_sl sl88 (.tmp rfl) | exact QW.len_nil sl88 (.tmp rfl)) ?_
      refine JL.q rfl rfl rfl (QW.min2 (.tmp rfl) (.tmp rfl)) ?_
      refine JL.q rfl rfl rfl (QW.slice_H sl88 ty116 rfl (.tmp rfl) (Ev.le (.tmp rfl) (Le.intE (show _ = ((min n.toNat l.length : Nat) : Int) from by first | omega | (split <;> omega)))) rfl (by rw [ItT.css_length]; exact Nat.min_le_right _ _)) ?_
      refine JL.q rfl rfl rfl (QW.field_ptr fo92_1 (.tmp rfl) rfl) ?_
      refine JL.store_box 0 ty88 (.tmp rfl) rfl (.tmp rfl) (by first | rfl | assumption) rfl rfl rfl rfl ?_
      refine JL.nil ?_
      refine thenQ.n ?_
      refine J.seq ?_
      refine J.region_lit ?_
      refine JL.q rfl rfl rfl (by first | exact QW.load_box 0 ty92 (.tmp rfl) rfl rfl rfl | exact QW.load_box 0 ty92 (.tmp rfl) rfl (take_at (BT.cs_length _ _) rfl) (BT.cs_length _ _)) ?_
      refine JL.q rfl rfl rfl (QW.call gofn97 (.cons (Ev.le (.tmp rfl) (.aggL (.cons (.refl _) (.cons (by rw [ItT.css_take]; exact .refl _) .nil)))) .nil) (bclone_ok (q := ⟨la, l.take (min n.toNat l.length)⟩) Bc.mk (hw.take _))) ?_
      refine JL.q rfl rfl rfl (QW.field1 (t' := 88) (o := 1) (by kernel_rfl) ty88 (.tmp rfl) rfl) ?_
      refine JL.q rfl rfl rfl (QW.assign (.tmp rfl)) ?_
      refine JL.q rfl rfl rfl (QW.assign .const) ?_
      refine JL.nil ?_
      refine thenQ.n ?_
      refine J.ret ?_
      exact ⟨_, selP [.k] _, _, RetEv.two rfl (REv.tmp rfl (.refl _)) (REv.tmp rfl (.refl _)), rfl, sel_perm [.k] _, ⟨congrArg Res.ret (by rw [nextAV_of (q := ⟨la, l⟩) (n := n) (l := l.take (min n.toNat l.length)) (f := 0) (by rw [take_min]; unfold BT.next; rw [if_neg (by simp [hok]), if_neg (by omega)])]; try rfl), rfl⟩⟩

theorem rbnext_ok {fr : Bool} {q : BT} {ys : List AV} (hq : Bc fr q ys) (n : Int) (hw : q.wf) : Fn Try.prog 59 [.agg ys, .c (.int .i64 n)] (nextAV q n) := by
  obtain ⟨la, l⟩ := q
  subst hq
  obtain ⟨hl1, hit⟩ := hw
  have hw : (BT.mk la l).wf := ⟨hl1, hit⟩
  simp only at hl1 hit
  have hlen := hit.len
  refine AC.of_J Try.func59 rfl Try.ntmps59 rfl fun w0 A0 => ?_
  refine J.seq ?_
  refine J.region_lit ?_
  refine JL.box_agg (.tmp rfl) rfl fun b2 => ?_
  refine JL.q rfl rfl rfl (QW.assign .const) ?_
  refine JL.q rfl rfl rfl (QW.assign .const) ?_
  refine JL.nil ?_
  refine thenQ.n ?_
  refine J.seq ?_
  refine J.block ?_
  refine J.seq ?_
  refine J.region_lit ?_
  refine JL.q rfl rfl rfl (by first | exact QW.load_box 0 ty90 (.tmp rfl) rfl rfl rfl | exact QW.load_box 0 ty90 (.tmp rfl) rfl (take_at (BT.cs_length _ _) rfl) (BT.cs_length _ _)) ?_
  refine JL.q rfl rfl rfl (QW.call gofn64 (.cons (.tmp rfl) .nil) (rbcheck_ok Bc.mk hw)) ?_
  refine JL.q rfl rfl rfl (QW.neq (.tmp rfl) .const) ?_
  refine JL.q rfl rfl rfl (QW.assign (.tmp rfl)) ?_
  refine JL.nil ?_
  refine thenQ.n ?_
  refine J.cond (.tmp rfl) (fun c1 => ?_) (fun c1 => ?_)
  · skip
    simp at c1
    obtain ⟨hno, he9⟩ := BT.err_no c1
    refine J.seq ?_
    refine J.region_lit ?_
    refine JL.q rfl rfl rfl (QW.assign .const) ?_
    refine JL.q rfl rfl rfl (QW.assign .const) ?_
    refine JL.nil ?_
    refine thenQ.n ?_
    refine J.ret ?_
    refine blkQ.r ?_
    refine thenQ.r ?_
    exact ⟨_, selP [.k] _, _, RetEv.two rfl (REv.tmp rfl (.nil true false eIt)) (REv.tmp rfl (.refl _)), rfl, sel_perm [.k] _, ⟨congrArg Res.ret (nextAV_of (q := ⟨la, l⟩) (n := n) (l := []) (f := 9) (by simp [BT.next, hno])).symm, rfl⟩⟩
  · skip
    simp at c1
    have hok := BT.err_ok.1 c1
    obtain ⟨o1, o2, o3, o4⟩ := BT.ok_inv hok
    simp only at o1 o2 o3 o4
    refine J.seq ?_
    refine J.region_lit ?_
    refine JL.q rfl rfl rfl (QW.move (.tmp rfl)) ?_
    refine JL.q rfl rfl rfl (QW.lss (.tmp rfl) .const) ?_
    refine JL.q rfl rfl rfl (QW.assign (.tmp rfl)) ?_
    refine JL.nil ?_
    refine thenQ.n ?_
    refine J.cond (.tmp rfl) (fun c2 => ?_) (fun c2 => ?_)
    · skip
      simp at c2
      refine J.seq ?_
      refine J.region_lit ?_
      refine JL.q rfl rfl rfl (QW.assign .const) ?_
      refine JL.q rfl rfl rfl (QW.assign .const) ?_
      refine JL.nil ?_
      refine thenQ.n ?_
      refine J.ret ?_
      refine blkQ.r ?_
      refine thenQ.r ?_
      exact ⟨_, selP [.k] _, _, RetEv.two rfl (REv.tmp rfl (.nil true false eIt)) (REv.tmp rfl (.refl _)), rfl, sel_perm [.k] _, ⟨congrArg Res.ret (nextAV_of (q := ⟨la, l⟩) (n := n) (l := []) (f := 4) (by simp [BT.next, hok]; omega)).symm, rfl⟩⟩
    · skip
      simp at c2
      refine J.skip ?_
      refine blkQ.n ?_
      refine thenQ.n ?_
      refine J.seq ?_
      refine J.region_lit ?_
      refine JL.q rfl rfl rfl (by first | exact QW.load_box 0 ty90 (.tmp rfl) rfl rfl rfl | exact QW.load_box 0 ty90 (.tmp rfl) rfl (take_at (BT.cs_length _ _) rfl) (BT.cs_length _ _)) ?_
      refine JL.q rfl rfl rfl (QW.call gofn98 (.cons (.tmp rfl) .nil) (rbown_rd Bc.mk hw)) ?_
      refine JL.alloc z90 rfl rfl fun b6 => ?_
      first | refine JL.store_boxF 0 ty90 (.tmp rfl) rfl (.tmp rfl) (by first | rfl | assumption) (rfl) (rfl) rfl ?_ | refine JL.store_boxF 0 ty90 (.tmp rfl) rfl (.tmp rfl) (by first | rfl | assumption) (rfl) (BT.cs_length _ _) rfl ?_ | refine JL.store_boxF 0 ty90 (.tmp rfl) rfl (.tmp rfl) (by first | rfl | assumption) (BT.cs_length _ _) (rfl) rfl ?_ | refine JL.store_boxF 0 ty90 (.tmp rfl) rfl (.tmp rfl) (by first | rfl | assumption) (BT.cs_length _ _) (BT.cs_length _ _) rfl ?_ | refine JL.store_box 0 ty90 (.tmp rfl) rfl (.tmp rfl) (by first | rfl | assumption) rfl rfl rfl rfl ?_ | refine JL.store_box 0 ty90 (.tmp rfl) rfl (.tmp rfl) (by first | rfl | assumption) (BT.cs_length _ _) rfl rfl rfl ?_
      refine JL.nil ?_
      refine thenQ.n ?_
      refine J.seq ?_
      refine J.region_lit ?_
      refine JL.q rfl rfl rfl (QW.field_ptr fo90_1 (.tmp rfl) rfl) ?_
      refine JL.q rfl rfl rfl (QW.load_box1 0 ty88 (.tmp rfl) rfl rfl) ?_
      refine JL.q rfl rfl rfl (QW.move (.tmp rfl)) ?_
      refine JL.q rfl rfl rfl (QW.field_ptr fo90_1 (.tmp rfl) rfl) ?_
      refine JL.q rfl rfl rfl (QW.load_box1 0 ty88 (.tmp rfl) rfl rfl) ?_
      refine JL.q rfl rfl rfl (by first | exact QW.len_slE sl88 (.tmp rfl) (ItT.css_length _ _) | exact QW.len_slE sl88 (.tmp rfl) (EvT.css_length _ _) | exact QW.len_sl sl88 (.tmp rfl) | exact QW.len_nil sl88 (.tmp rfl)) ?_
      refine JL.q rfl rfl rfl (QW.min2 (.tmp rfl) (.tmp rfl)) ?_
      refine JL.q rfl rfl rfl (QW.slice_H sl88 ty116 rfl (.tmp rfl) (Ev.le (.tmp rfl) (Le.intE (show _ = ((min n.toNat l.length : Nat) : Int) from by first | omega | (split <;> omega)))) rfl (by rw [ItT.css_length]; exact Nat.min_le_right _ _)) ?_
      refine JL.q rfl rfl rfl (QW.assign (.tmp rfl)) ?_
      refine JL.q rfl rfl rfl (QW.assign .const) ?_
      refine JL.nil ?_
      refine thenQ.n ?_
      refine J.ret ?_
      exact ⟨_, selP [.k, .k] _, _, RetEv.two rfl (REv.tmp rfl (.refl _)) (REv.tmp rfl (.refl _)), rfl, sel_perm [.k, .k] _, ⟨congrArg Res.ret (by rw [nextAV_of (q := ⟨la, l⟩) (n := n) (l := l.take (min n.toNat l.length)) (f := 0) (by rw [take_min]; unfold BT.next; rw [if_neg (by simp [hok]), if_neg (by omega)]), itsAV, ItT.css_take]; try rfl), rfl⟩⟩

end Go.Proofs.Ytkiankpmkglhcaa.J

/- Walks: an event's effects, by the program and by the page. -/
namespace Go.Proofs.Ytkiankpmkglhcaa.J
open Go Go.RowKit
set_option linter.unusedVariables false
set_option linter.unusedSimpArgs false
set_option maxRecDepth 10000
set_option maxHeartbeats 4000000

theorem or32 {s j : Int} (hs : 0 ≤ s ∧ s ≤ 1099511627776) (hj : 0 ≤ j ∧ j < 32) : bitsOp .or .i64 (32 * s) j = 32 * s + j := by
  obtain ⟨a, rfl⟩ := Int.eq_ofNat_of_zero_le hs.1
  obtain ⟨b, rfl⟩ := Int.eq_ofNat_of_zero_le hj.1
  have hb : b < 2 ^ 5 := by omega
  have h1 : (BitVec.ofInt 64 (32 * (a : Int)) ||| BitVec.ofInt 64 (b : Int)).toNat = 32 * a + b := by
    rw [BitVec.toNat_or]
    have e1 : (BitVec.ofInt 64 (32 * (a : Int))).toNat = 2 ^ 5 * a := by
      rw [show (32 * (a : Int)) = ((32 * a : Nat) : Int) by push_cast; rfl, BitVec.ofInt_natCast, BitVec.toNat_ofNat]
      omega
    have e2 : (BitVec.ofInt 64 (b : Int)).toNat = b := by
      rw [BitVec.ofInt_natCast, BitVec.toNat_ofNat]
      omega
    rw [e1, e2, ← Nat.two_pow_add_eq_or_of_lt hb]
  show IntKind.i64.wrap ((BitVec.ofInt 64 (32 * (a : Int)) ||| BitVec.ofInt 64 (b : Int)).toNat : Nat) = _
  rw [h1, w64 (by omega)]
  push_cast
  rfl
theorem fill_it {c a0 a1 a2 a3 a4 a5 a6 : AV} {z : List AV} (hz : z.length = 6) : fillA ([(0, 1), (1, 6)].toArray[·]?) [a0, a1, a2, a3, a4, a5, a6] [(0, [c]), (1, z)] = some (c :: z) := by
  have h1 : splice [c, a1, a2, a3, a4, a5, a6] 1 z = c :: z := by
    rw [splice_succ, splice_all (by rw [hz]; rfl)]
  simp [fillA, splice_zero, hz, h1]
theorem numIt_snoc (seq : Int) : ∀ (l : List EvT) (e : EvT) (i : Nat), numIt seq i (l ++ [e]) = numIt seq i l ++ [⟨32 * seq + ((i + l.length : Nat) : Int), e⟩]
  | [], e, i => by simp [numIt]
  | x :: r, e, i => by
    have := numIt_snoc seq r e (i + 1)
    simp only [List.cons_append, numIt, this, List.length_cons]
    rw [show i + 1 + r.length = i + (r.length + 1) by omega]
theorem numIt_take {seq : Int} {m : List EvT} {j : Nat} (h : j < m.length) : numIt seq 0 (m.take (j + 1)) = numIt seq 0 (m.take j) ++ [⟨32 * seq + (j : Int), m[j]⟩] := by
  rw [List.take_succ_eq_append_getElem h, numIt_snoc, List.length_take, Nat.min_eq_left (by omega), Nat.zero_add]
theorem numIt_length (seq : Int) : ∀ (l : List EvT) (i : Nat), (numIt seq i l).length = l.length
  | [], _ => rfl
  | x :: r, i => by simp [numIt, numIt_length seq r]
theorem evsErr_at {m : List EvT} {j : Nat} (h : j < m.length) (h0 : evsErr (m.take j) = 0) (he : evErr m[j] ≠ 0) : evsErr m = evErr m[j] := by
  induction m generalizing j with
  | nil => simp at h
  | cons x r ih =>
    cases j with
    | zero => simp at he ⊢; simp [evsErr, he]
    | succ j =>
      simp only [List.take_succ_cons, evsErr] at h0
      split at h0
      · rename_i hx; exact absurd h0 hx
      · rename_i hx
        simp only [evsErr, if_neg hx]
        exact ih (by simpa using h) h0 (by simpa using he)
theorem evsErr_snoc {m : List EvT} {j : Nat} (h : j < m.length) (h0 : evsErr (m.take j) = 0) (he : evErr m[j] = 0) : evsErr (m.take (j + 1)) = 0 := by
  induction m generalizing j with
  | nil => simp at h
  | cons x r ih =>
    cases j with
    | zero => simp at he ⊢; simp [evsErr, he]
    | succ j =>
      simp only [List.take_succ_cons, evsErr] at h0 ⊢
      split at h0
      · rename_i hx; exact absurd h0 hx
      · rename_i hx
        rw [if_neg hx]
        exact ih (by simpa using h) h0 (by simpa using he)
theorem numIt_wf {seq : Int} (hs : 0 ≤ seq ∧ seq ≤ 1099511627776) : ∀ (m : List EvT) (i : Nat), i + m.length ≤ 1000 → (∀ e ∈ m, e.wf) → ∀ x ∈ numIt seq i m, x.wf
  | [], _, _, _ => fun x h => by cases h
  | e :: r, i, hi, hm => fun x h => by
    simp only [List.length_cons] at hi
    rcases List.mem_cons.1 h with rfl | h
    · exact ⟨by simp only; omega, hm e (by simp)⟩
    · exact numIt_wf hs r (i + 1) (by omega) (fun e he => hm e (by simp [he])) x h
theorem numIt_wf1 {seq : Int} {j : Int} {e : EvT} (hs : 0 ≤ seq ∧ seq ≤ 1099511627776) (hj : 0 ≤ j ∧ j < 1000) (he : e.wf) : (ItT.mk (32 * seq + j) e).wf := ⟨by simp only; omega, he⟩
theorem add_wf {la seq : Int} {l : List ItT} {m : List EvT} (hw : (BT.mk la l).wf) (hm : EvT.wfs m) (hs : 0 ≤ seq ∧ seq ≤ 1099511627776) (hl : l.length ≤ 256) (hml : m.length ≤ 32) : (BT.mk seq (l ++ numIt seq 0 m)).wf :=
  ⟨by simp only; omega, ⟨by rw [List.length_append, numIt_length]; unfold reach; omega, fun x hx => (List.mem_append.1 hx).elim (hw.it.2 x) (numIt_wf hs m 0 (by omega) hm.2 x)⟩⟩

theorem badd_ok {fr fr2 c2 : Bool} {q : BT} {m : List EvT} {ys : List AV} (hq : Bc fr q ys) (seq : Int) (hw : q.wf) (hm : EvT.wfs m) : Fn Try.prog 54 [.agg ys, .c (.int .i64 seq), .sl fr2 c2 eEv (EvT.css fr2 m)] (addAV q seq m) := by
  obtain ⟨la, l⟩ := q
  subst hq
  obtain ⟨hl1, hit⟩ := hw
  have hw : (BT.mk la l).wf := ⟨hl1, hit⟩
  simp only at hl1 hit
  have hlen := hit.len
  have hml := hm.len
  refine AC.of_J Try.func54 rfl Try.ntmps54 rfl fun w0 A0 => ?_
  refine J.seq ?_
  refine J.region_lit ?_
  refine JL.box_agg (.tmp rfl) rfl fun b3 => ?_
  refine JL.alloc z92 rfl rfl fun b6 => ?_
  refine JL.q rfl rfl rfl (QW.assign .const) ?_
  refine JL.nil ?_
  refine thenQ.n ?_
  refine J.seq ?_
  refine J.seq ?_
  refine J.region_lit ?_
  refine JL.q rfl rfl rfl (by first | exact QW.load_box 1 ty92 (.tmp rfl) rfl rfl rfl | exact QW.load_box 1 ty92 (.tmp rfl) rfl (take_at (BT.cs_length _ _) rfl) (BT.cs_length _ _)) ?_
  refine JL.q rfl rfl rfl (QW.call gofn63 (.cons (.tmp rfl) .nil) (bcheck_ok Bc.mk hw)) ?_
  refine JL.q rfl rfl rfl (QW.assign (.tmp rfl)) ?_
  refine JL.nil ?_
  refine thenQ.n ?_
  refine J.seq ?_
  refine J.region_lit ?_
  refine JL.q rfl rfl rfl (QW.move (.tmp rfl)) ?_
  refine JL.q rfl rfl rfl (QW.neq (.tmp rfl) .const) ?_
  refine JL.nil ?_
  refine thenQ.n ?_
  refine J.cond (.tmp rfl) (fun c1 => ?_) (fun c1 => ?_)
  · skip
    simp at c1
    obtain ⟨hno, he9⟩ := BT.err_no c1
    refine J.seq ?_
    refine J.region_lit ?_
    refine JL.q rfl rfl rfl (QW.build (idx := []) pl92 z92 rfl .nil rfl rfl rfl rfl) ?_
    refine JL.q rfl rfl rfl (QW.move (.tmp rfl)) ?_
    first | refine JL.store_boxF 0 ty92 (.tmp rfl) rfl (.tmp rfl) (by first | rfl | assumption) (rfl) (rfl) rfl ?_ | refine JL.store_boxF 0 ty92 (.tmp rfl) rfl (.tmp rfl) (by first | rfl | assumption) (rfl) (BT.cs_length _ _) rfl ?_ | refine JL.store_boxF 0 ty92 (.tmp rfl) rfl (.tmp rfl) (by first | rfl | assumption) (BT.cs_length _ _) (rfl) rfl ?_ | refine JL.store_boxF 0 ty92 (.tmp rfl) rfl (.tmp rfl) (by first | rfl | assumption) (BT.cs_length _ _) (BT.cs_length _ _) rfl ?_ | refine JL.store_box 0 ty92 (.tmp rfl) rfl (.tmp rfl) (by first | rfl | assumption) rfl rfl rfl rfl ?_ | refine JL.store_box 0 ty92 (.tmp rfl) rfl (.tmp rfl) (by first | rfl | assumption) (BT.cs_length _ _) rfl rfl rfl ?_
    refine JL.q rfl rfl rfl (QW.assign (.tmp rfl)) ?_
    refine JL.nil ?_
    refine thenQ.n ?_
    refine J.ret ?_
    refine thenQ.r ?_
    exact ⟨_, selP [.k, .k] _, _, RetEv.two rfl (by first | exact REv.cell 0 ty92 rfl rfl rfl rfl (.aggL (.cons (.refl _) (.cons (.nil true false eIt) .nil))) | exact REv.cell 0 ty92 rfl rfl (take_at (BT.cs_length _ _) rfl) (BT.cs_length _ _) (.aggL (.cons (.refl _) (.cons (.nil true false eIt) .nil)))) (REv.tmp rfl (.refl _)), rfl, sel_perm [.k, .k] _, ⟨congrArg Res.ret (addAV_of (q := ⟨la, l⟩) (seq := seq) (l := m) (q' := .nil) (f := (BT.mk la l).err) (by simp [BT.add, hno, he9])).symm, rfl⟩⟩
  · skip
    simp at c1
    have hok := BT.err_ok.1 c1
    obtain ⟨o1, o2, o3, o4⟩ := BT.ok_inv hok
    simp only at o1 o2 o3 o4
    refine J.skip ?_
    refine thenQ.n ?_
    refine J.seq ?_
    refine J.block ?_
    refine J.seq ?_
    refine J.region_lit ?_
    refine JL.q rfl rfl rfl (QW.move (.tmp rfl)) ?_
    refine JL.q rfl rfl rfl (QW.field_ptr fo92_0 (.tmp rfl) rfl) ?_
    refine JL.q rfl rfl rfl (QW.load_box1 1 ty3 (.tmp rfl) rfl rfl) ?_
    refine JL.q rfl rfl rfl (QW.leq (.tmp rfl) (.tmp rfl)) ?_
    refine JL.q rfl rfl rfl (QW.assign (.tmp rfl)) ?_
    refine JL.nil ?_
    refine thenQ.n ?_
    refine J.cond (.tmp rfl) (fun c2 => ?_) (fun c2 => ?_)
    · skip
      simp at c2
      refine J.seq ?_
      refine J.region_lit ?_
      refine JL.q rfl rfl rfl (QW.build (idx := []) pl92 z92 rfl .nil rfl rfl rfl rfl) ?_
      first | refine JL.store_boxF 0 ty92 (.tmp rfl) rfl (.tmp rfl) (by first | rfl | assumption) (rfl) (rfl) rfl ?_ | refine JL.store_boxF 0 ty92 (.tmp rfl) rfl (.tmp rfl) (by first | rfl | assumption) (rfl) (BT.cs_length _ _) rfl ?_ | refine JL.store_boxF 0 ty92 (.tmp rfl) rfl (.tmp rfl) (by first | rfl | assumption) (BT.cs_length _ _) (rfl) rfl ?_ | refine JL.store_boxF 0 ty92 (.tmp rfl) rfl (.tmp rfl) (by first | rfl | assumption) (BT.cs_length _ _) (BT.cs_length _ _) rfl ?_ | refine JL.store_box 0 ty92 (.tmp rfl) rfl (.tmp rfl) (by first | rfl | assumption) rfl rfl rfl rfl ?_ | refine JL.store_box 0 ty92 (.tmp rfl) rfl (.tmp rfl) (by first | rfl | assumption) (BT.cs_length _ _) rfl rfl rfl ?_
      refine JL.q rfl rfl rfl (QW.assign .const) ?_
      refine JL.nil ?_
      refine thenQ.n ?_
      refine J.ret ?_
      refine blkQ.r ?_
      refine thenQ.r ?_
      exact ⟨_, selP [.k, .k] _, _, RetEv.two rfl (by first | exact REv.cell 0 ty92 rfl rfl rfl rfl (.aggL (.cons (.refl _) (.cons (.nil true false eIt) .nil))) | exact REv.cell 0 ty92 rfl rfl (take_at (BT.cs_length _ _) rfl) (BT.cs_length _ _) (.aggL (.cons (.refl _) (.cons (.nil true false eIt) .nil)))) (REv.tmp rfl (.refl _)), rfl, sel_perm [.k, .k] _, ⟨congrArg Res.ret (addAV_of (q := ⟨la, l⟩) (seq := seq) (l := m) (q' := .nil) (f := 32) (by unfold BT.add; rw [if_neg (by simp [hok]), if_pos (by (try simp only); omega)])).symm, rfl⟩⟩
    · skip
      simp at c2
      refine J.seq ?_
      refine J.region_lit ?_
      refine JL.q rfl rfl rfl (QW.move (.tmp rfl)) ?_
      refine JL.q rfl rfl rfl (QW.gtr (.tmp rfl) .const) ?_
      refine JL.q rfl rfl rfl (QW.assign (.tmp rfl)) ?_
      refine JL.nil ?_
      refine thenQ.n ?_
      refine J.cond (.tmp rfl) (fun c3 => ?_) (fun c3 => ?_)
      · skip
        simp at c3
        refine J.seq ?_
        refine J.region_lit ?_
        refine JL.q rfl rfl rfl (QW.build (idx := []) pl92 z92 rfl .nil rfl rfl rfl rfl) ?_
        first | refine JL.store_boxF 0 ty92 (.tmp rfl) rfl (.tmp rfl) (by first | rfl | assumption) (rfl) (rfl) rfl ?_ | refine JL.store_boxF 0 ty92 (.tmp rfl) rfl (.tmp rfl) (by first | rfl | assumption) (rfl) (BT.cs_length _ _) rfl ?_ | refine JL.store_boxF 0 ty92 (.tmp rfl) rfl (.tmp rfl) (by first | rfl | assumption) (BT.cs_length _ _) (rfl) rfl ?_ | refine JL.store_boxF 0 ty92 (.tmp rfl) rfl (.tmp rfl) (by first | rfl | assumption) (BT.cs_length _ _) (BT.cs_length _ _) rfl ?_ | refine JL.store_box 0 ty92 (.tmp rfl) rfl (.tmp rfl) (by first | rfl | assumption) rfl rfl rfl rfl ?_ | refine JL.store_box 0 ty92 (.tmp rfl) rfl (.tmp rfl) (by first | rfl | assumption) (BT.cs_length _ _) rfl rfl rfl ?_
        refine JL.q rfl rfl rfl (QW.assign .const) ?_
        refine JL.nil ?_
        refine thenQ.n ?_
        refine J.ret ?_
        refine blkQ.r ?_
        refine thenQ.r ?_
        exact ⟨_, selP [.k, .k] _, _, RetEv.two rfl (by first | exact REv.cell 0 ty92 rfl rfl rfl rfl (.aggL (.cons (.refl _) (.cons (.nil true false eIt) .nil))) | exact REv.cell 0 ty92 rfl rfl (take_at (BT.cs_length _ _) rfl) (BT.cs_length _ _) (.aggL (.cons (.refl _) (.cons (.nil true false eIt) .nil)))) (REv.tmp rfl (.refl _)), rfl, sel_perm [.k, .k] _, ⟨congrArg Res.ret (addAV_of (q := ⟨la, l⟩) (seq := seq) (l := m) (q' := .nil) (f := 4) (by unfold BT.add; rw [if_neg (by simp [hok]), if_neg (by (try simp only); omega), if_pos (by (try simp only); omega)])).symm, rfl⟩⟩
      · skip
        simp at c3
        refine J.seq ?_
        refine J.region_lit ?_
        refine JL.q rfl rfl rfl (QW.move (.tmp rfl)) ?_
        refine JL.q rfl rfl rfl (by first | exact QW.len_slE sl91 (.tmp rfl) (ItT.css_length _ _) | exact QW.len_slE sl91 (.tmp rfl) (EvT.css_length _ _) | exact QW.len_sl sl91 (.tmp rfl) | exact QW.len_nil sl91 (.tmp rfl)) ?_
        refine JL.q rfl rfl rfl (QW.gtr (.tmp rfl) .const) ?_
        refine JL.q rfl rfl rfl (QW.assign (.tmp rfl)) ?_
        refine JL.nil ?_
        refine thenQ.n ?_
        refine J.cond (.tmp rfl) (fun c4 => ?_) (fun c4 => ?_)
        · skip
          simp [EvT.css_length] at c4
          refine J.seq ?_
          refine J.region_lit ?_
          refine JL.q rfl rfl rfl (QW.build (idx := []) pl92 z92 rfl .nil rfl rfl rfl rfl) ?_
          first | refine JL.store_boxF 0 ty92 (.tmp rfl) rfl (.tmp rfl) (by first | rfl | assumption) (rfl) (rfl) rfl ?_ | refine JL.store_boxF 0 ty92 (.tmp rfl) rfl (.tmp rfl) (by first | rfl | assumption) (rfl) (BT.cs_length _ _) rfl ?_ | refine JL.store_boxF 0 ty92 (.tmp rfl) rfl (.tmp rfl) (by first | rfl | assumption) (BT.cs_length _ _) (rfl) rfl ?_ | refine JL.store_boxF 0 ty92 (.tmp rfl) rfl (.tmp rfl) (by first | rfl | assumption) (BT.cs_length _ _) (BT.cs_length _ _) rfl ?_ | refine JL.store_box 0 ty92 (.tmp rfl) rfl (.tmp rfl) (by first | rfl | assumption) rfl rfl rfl rfl ?_ | refine JL.store_box 0 ty92 (.tmp rfl) rfl (.tmp rfl) (by first | rfl | assumption) (BT.cs_length _ _) rfl rfl rfl ?_
          refine JL.q rfl rfl rfl (QW.assign .const) ?_
          refine JL.nil ?_
          refine thenQ.n ?_
          refine J.ret ?_
          refine blkQ.r ?_
          refine thenQ.r ?_
          exact ⟨_, selP [.k, .k] _, _, RetEv.two rfl (by first | exact REv.cell 0 ty92 rfl rfl rfl rfl (.aggL (.cons (.refl _) (.cons (.nil true false eIt) .nil))) | exact REv.cell 0 ty92 rfl rfl (take_at (BT.cs_length _ _) rfl) (BT.cs_length _ _) (.aggL (.cons (.refl _) (.cons (.nil true false eIt) .nil)))) (REv.tmp rfl (.refl _)), rfl, sel_perm [.k, .k] _, ⟨congrArg Res.ret (addAV_of (q := ⟨la, l⟩) (seq := seq) (l := m) (q' := .nil) (f := 3) (by unfold BT.add; rw [if_neg (by simp [hok]), if_neg (by (try simp only); omega), if_neg (by (try simp only); omega), if_pos (by (try simp only); omega)])).symm, rfl⟩⟩
        · skip
          simp [EvT.css_length] at c4
          have hs1 : 0 ≤ seq ∧ seq ≤ 1099511627776 := by omega
          have hm32 : m.length ≤ 32 := by omega
          refine J.skip ?_
          refine blkQ.n ?_
          refine thenQ.n ?_
          refine J.seq ?_
          refine J.region_lit ?_
          refine JL.q rfl rfl rfl (QW.move (.tmp rfl)) ?_
          refine JL.q rfl rfl rfl (QW.field_ptr fo92_0 (.tmp rfl) rfl) ?_
          refine JL.store_box 1 ty3 (.tmp rfl) rfl (.tmp rfl) (by first | rfl | assumption) rfl rfl rfl rfl ?_
          refine JL.nil ?_
          refine thenQ.n ?_
          refine J.seq ?_
          refine J.region_lit ?_
          refine JL.q rfl rfl rfl (QW.field_ptr fo92_1 (.tmp rfl) rfl) ?_
          refine JL.q rfl rfl rfl (QW.load_box1 1 ty88 (.tmp rfl) rfl rfl) ?_
          refine JL.q rfl rfl rfl (QW.call gofn95 (.cons (.tmp rfl) .nil) (clipIt_ok _)) ?_
          refine JL.q rfl rfl rfl (QW.field_ptr fo92_1 (.tmp rfl) rfl) ?_
          refine JL.store_box 1 ty88 (.tmp rfl) rfl (.tmp rfl) (by first | rfl | assumption) rfl rfl rfl rfl ?_
          refine JL.nil ?_
          refine thenQ.n ?_
          refine J.seq ?_
          refine J.seq ?_
          refine J.region_lit ?_
          refine JL.q rfl rfl rfl (QW.move (.tmp rfl)) ?_
          refine JL.q rfl rfl rfl (by first | exact QW.len_slE sl91 (.tmp rfl) (ItT.css_length _ _) | exact QW.len_slE sl91 (.tmp rfl) (EvT.css_length _ _) | exact QW.len_sl sl91 (.tmp rfl) | exact QW.len_nil sl91 (.tmp rfl)) ?_
          refine JL.q rfl rfl rfl (QW.move .const) ?_
          refine JL.nil ?_
          refine thenQ.n ?_
          refine J.block ?_
          refine J.reown (Reown.nilGrpE _) ?_
          refine J.loopK (ι := Nat × AV × Own) [1, 3, 6, 39, 40] (fun ⟨j, x, o⟩ => [(41, .c (.int .i64 (j : Int)))]) (fun ⟨j, x, o⟩ oo => List.set (List.set oo 1 (.box b3 [.c (.int .i64 seq), x])) 2 (o)) (fun ⟨j, x, o⟩ => j ≤ m.length ∧ AppOk eIt x o (ItT.css fr l ++ ItT.css fr2 (numIt seq 0 (m.take j))) ∧ evsErr (m.take j) = 0) (fun ⟨j, x, o⟩ => m.length - j) ⟨0, .sl fr true eIt (ItT.css fr l), .grp []⟩ (⟨Nat.zero_le _, .inl ⟨fr, by simp [numIt, ItT.css], rfl⟩, rfl⟩) (Wk.re (.cons rfl (.refl _) (.cons rfl (.refl _) (.cons rfl (.refl _) (.cons rfl (.refl _) (.cons rfl (.refl _) (.cons rfl (.refl _) .nil)))))) (Reown.refl _) (fun _ h => by first | exact h | simp [h])) ?_
          intro ⟨j, x, o⟩ ⟨hj, hX, hE⟩
          refine J.conv (by (try simp only [stepsO, List.map_cons, List.map_nil, valO, nthO, curO, mrg, List.reverse_cons, List.reverse_nil, List.nil_append, List.cons_append, List.append_nil, List.getElem?_cons_zero, List.getElem?_cons_succ, Option.map_some, Option.getD_some, List.set_cons_zero, List.set_cons_succ, AV.cellsOf, splice_zero, splice_succ, Nat.zero_add, Nat.reduceAdd]); rfl) ?_
          refine J.seq ?_
          refine J.region_lit ?_
          refine JL.q rfl rfl rfl (QW.lss (.tmp rfl) (.tmp rfl)) ?_
          refine JL.nil ?_
          refine thenQ.n ?_
          refine J.seq ?_
          refine J.cond (.tmp rfl) (fun c5 => ?_) (fun c5 => ?_)
          · skip
            have hlt : j < m.length := by simpa [EvT.css_length] using c5
            refine J.skip ?_
            refine thenQ.n ?_
            refine J.seq ?_
            refine J.block ?_
            refine J.seq ?_
            refine J.region_lit ?_
            refine JL.q rfl rfl rfl (QW.move (.tmp rfl)) ?_
            refine JL.q rfl rfl rfl (QW.index_sl sl91 ty114 rfl (.tmp rfl) (.tmp rfl) (by first | rfl | omega | (simp; done)) (by exact EvT.css_getE _ hlt)) ?_
            refine JL.q rfl rfl rfl (by first | exact QW.load_ref ty114 (.tmp rfl) rfl rfl | exact QW.load_ref ty114 (.tmp rfl) (take_at0 (EvT.cs_length _ _) rfl) (EvT.cs_length _ _)) ?_
            refine JL.alloc z114 rfl rfl fun b10 => ?_
            refine JL.q rfl rfl rfl (QW.assign (.tmp rfl)) ?_
            first | refine JL.store_boxF 0 ty114 (.tmp rfl) rfl (.tmp rfl) (by first | rfl | assumption) (rfl) (rfl) rfl ?_ | refine JL.store_boxF 0 ty114 (.tmp rfl) rfl (.tmp rfl) (by first | rfl | assumption) (rfl) (EvT.cs_length _ _) rfl ?_ | refine JL.store_boxF 0 ty114 (.tmp rfl) rfl (.tmp rfl) (by first | rfl | assumption) (EvT.cs_length _ _) (rfl) rfl ?_ | refine JL.store_boxF 0 ty114 (.tmp rfl) rfl (.tmp rfl) (by first | rfl | assumption) (EvT.cs_length _ _) (EvT.cs_length _ _) rfl ?_ | refine JL.store_box 0 ty114 (.tmp rfl) rfl (.tmp rfl) (by first | rfl | assumption) rfl rfl rfl rfl ?_ | refine JL.store_box 0 ty114 (.tmp rfl) rfl (.tmp rfl) (by first | rfl | assumption) (EvT.cs_length _ _) rfl rfl rfl ?_
            refine JL.nil ?_
            refine thenQ.n ?_
            refine J.seq ?_
            refine J.seq ?_
            refine J.region_lit ?_
            refine JL.q rfl rfl rfl (by first | exact QW.load_box 0 ty114 (.tmp rfl) rfl rfl rfl | exact QW.load_box 0 ty114 (.tmp rfl) rfl (take_at (EvT.cs_length _ _) rfl) (EvT.cs_length _ _)) ?_
            refine JL.q rfl rfl rfl (QW.call gofn96 (.cons (.tmp rfl) .nil) (effect_ok Ec.self (hm.2 _ (List.getElem_mem hlt)))) ?_
            refine JL.q rfl rfl rfl (QW.assign (.tmp rfl)) ?_
            refine JL.nil ?_
            refine thenQ.n ?_
            refine J.seq ?_
            refine J.region_lit ?_
            refine JL.q rfl rfl rfl (QW.move (.tmp rfl)) ?_
            refine JL.q rfl rfl rfl (QW.neq (.tmp rfl) .const) ?_
            refine JL.nil ?_
            refine thenQ.n ?_
            refine J.cond (.tmp rfl) (fun c6 => ?_) (fun c6 => ?_)
            · skip
              simp at c6
              have hee := c6
              refine J.seq ?_
              refine J.region_lit ?_
              refine JL.q rfl rfl rfl (QW.build (idx := []) pl92 z92 rfl .nil rfl rfl rfl rfl) ?_
              refine JL.q rfl rfl rfl (QW.move (.tmp rfl)) ?_
              first | refine JL.store_boxF 1 ty92 (.tmp rfl) rfl (.tmp rfl) (by first | rfl | assumption) (rfl) (rfl) rfl ?_ | refine JL.store_boxF 1 ty92 (.tmp rfl) rfl (.tmp rfl) (by first | rfl | assumption) (rfl) (BT.cs_length _ _) rfl ?_ | refine JL.store_boxF 1 ty92 (.tmp rfl) rfl (.tmp rfl) (by first | rfl | assumption) (BT.cs_length _ _) (rfl) rfl ?_ | refine JL.store_boxF 1 ty92 (.tmp rfl) rfl (.tmp rfl) (by first | rfl | assumption) (BT.cs_length _ _) (BT.cs_length _ _) rfl ?_ | refine JL.store_box 1 ty92 (.tmp rfl) rfl (.tmp rfl) (by first | rfl | assumption) rfl rfl rfl rfl ?_ | refine JL.store_box 1 ty92 (.tmp rfl) rfl (.tmp rfl) (by first | rfl | assumption) (BT.cs_length _ _) rfl rfl rfl ?_
              refine JL.q rfl rfl rfl (QW.assign (.tmp rfl)) ?_
              refine JL.nil ?_
              refine thenQ.n ?_
              refine J.ret ?_
              refine thenQ.r ?_
              refine blkQ.r ?_
              refine thenQ.r ?_
              refine thenQ.r ?_
              refine blkQ.r ?_
              refine thenQ.r ?_
              exact ⟨_, selP [.k, .k, .k, .k] _, _, RetEv.two rfl (by first | exact REv.cell 1 ty92 rfl rfl rfl rfl (.aggL (.cons (.refl _) (.cons (.nil true false eIt) .nil))) | exact REv.cell 1 ty92 rfl rfl (take_at (BT.cs_length _ _) rfl) (BT.cs_length _ _) (.aggL (.cons (.refl _) (.cons (.nil true false eIt) .nil)))) (REv.tmp rfl (.refl _)), rfl, sel_perm [.k, .k, .k, .k] _, ⟨congrArg Res.ret (addAV_of (q := ⟨la, l⟩) (seq := seq) (l := m) (q' := .nil) (f := evErr (m[j]'hlt)) (by unfold BT.add; rw [if_neg (by simp [hok]), if_neg (by (try simp only); omega), if_neg (by (try simp only); omega), if_neg (by (try simp only); omega), evsErr_at hlt hE hee, if_pos hee])).symm, rfl⟩⟩
            · skip
              simp at c6
              have hee := c6
              refine J.skip ?_
              refine thenQ.n ?_
              refine J.region_lit ?_
              refine JL.q rfl rfl rfl (QW.field_ptr fo92_1 (.tmp rfl) rfl) ?_
              refine JL.q rfl rfl rfl (QW.load_box1 2 ty88 (.tmp rfl) rfl rfl) ?_
              refine JL.q rfl rfl rfl (QW.move (.tmp rfl)) ?_
              refine JL.q rfl rfl rfl (QW.mul .const (.tmp rfl) (by first | exact w64n (by first | rfl | omega | (simp; done)) (by omega) | exact w64 (by omega) | rfl)) ?_
              refine JL.q rfl rfl rfl (QW.move (.tmp rfl)) ?_
              refine JL.q rfl rfl rfl (QW.or (.tmp rfl) (.tmp rfl) (or32 hs1 (by omega))) ?_
              refine JL.q rfl rfl rfl (by first | exact QW.load_box 0 ty114 (.tmp rfl) rfl rfl rfl | exact QW.load_box 0 ty114 (.tmp rfl) rfl (take_at (EvT.cs_length _ _) rfl) (EvT.cs_length _ _)) ?_
              refine JL.q rfl rfl rfl (QW.build (idx := [0, 1]) pl116 z116 rfl (.cons (.tmp rfl) (.cons (.tmp rfl) .nil)) rfl rfl rfl (by exact fill_it (EvT.cs_length _ _))) ?_
              refine JL.q rfl rfl rfl (QW.buildSlice (idx := [0]) (xs := [ItT.cs fr2 ⟨32 * seq + (j : Int), m[j]'hlt⟩]) sl88 el116 z116 rfl (.cons (.tmp rfl) .nil) rfl rfl rfl rfl rfl (by exact fill_one (e := eIt) (z := ItT.cs fr2 ⟨32 * seq + (j : Int), m[j]'hlt⟩) (ItT.cs_length _ _)) rfl (all_one (ItT.cs_length _ _)) rfl) ?_
              refine JL.appendM 3 hX sl88 el116 rfl (.tmp rfl) rfl (srcA_sl sl88 (.tmp rfl)) (by simp) (by rw [List.length_append, ItT.css_length, ItT.css_length, numIt_length, List.length_take]; simp only [List.length_singleton]; show _ * 104 ≤ _; unfold reach; omega) rfl fun v61 => ?_
              refine JL.isSlice 3 rfl fun hs2 => ?_
              refine JL.q rfl rfl rfl (QW.field_ptr fo92_1 (.tmp rfl) rfl) ?_
              refine JL.store_box 2 ty88 (.tmp rfl) rfl (.tmp rfl) (by first | rfl | assumption) rfl rfl rfl rfl ?_
              refine JL.nil ?_
              refine blkQ.n ?_
              refine thenQ.n ?_
              refine J.region_lit ?_
              refine JL.q rfl rfl rfl (QW.add (.tmp rfl) .const (by first | exact w64n (by first | rfl | omega | (simp; done)) (by omega) | exact w64 (by omega) | rfl)) ?_
              refine JL.q rfl rfl rfl (QW.move (.tmp rfl)) ?_
              refine JL.nil ?_
              refine thenQ.n ?_
              exact ⟨⟨j + 1, .c v61, .arr v61 eIt (ItT.css fr l ++ ItT.css fr2 (numIt seq 0 (m.take j)) ++ [ItT.cs fr2 ⟨32 * seq + (j : Int), m[j]'hlt⟩])⟩, ⟨hlt, .inr ⟨v61, rfl, by rw [numIt_take hlt, ItT.css_append, ← List.append_assoc]; rfl⟩, evsErr_snoc hlt hE hee⟩, by show m.length - (j + 1) < m.length - j; omega, Wk.re (.cons rfl (.refl _) (.cons rfl (.refl _) (.cons rfl (.refl _) (.cons rfl (.refl _) (.cons rfl (.refl _) (.cons rfl (.refl _) .nil)))))) (Reown.dropN 1 _ rfl) (fun _ h => by first | exact h | simp [h])⟩
          · skip
            have hge : m.length ≤ j := by (simp [EvT.css_length] at c5; omega)
            obtain rfl : j = m.length := by omega
            rw [List.take_length] at hX hE
            refine J.exit ?_
            refine thenQ.x ?_
            refine thenQ.x ?_
            refine blkQ.hit ?_
            refine thenQ.n ?_
            refine J.seq ?_
            refine J.seq ?_
            refine J.region_lit ?_
            refine JL.q rfl rfl rfl (QW.field_ptr fo92_1 (.tmp rfl) rfl) ?_
            refine JL.q rfl rfl rfl (QW.load_box1 1 ty88 (.tmp rfl) rfl rfl) ?_
            refine JL.q rfl rfl rfl (QW.lenM 2 hX sl88 (.tmp rfl) rfl) ?_
            refine JL.q rfl rfl rfl (QW.gtr (.tmp rfl) .const) ?_
            refine JL.nil ?_
            refine thenQ.n ?_
            refine J.cond (.tmp rfl) (fun c6 => ?_) (fun c6 => ?_)
            · skip
              simp [ItT.css_length, numIt_length] at c6
              refine J.seq ?_
              refine J.region_lit ?_
              refine JL.q rfl rfl rfl (QW.build (idx := []) pl92 z92 rfl .nil rfl rfl rfl rfl) ?_
              first | refine JL.store_boxF 0 ty92 (.tmp rfl) rfl (.tmp rfl) (by first | rfl | assumption) (rfl) (rfl) rfl ?_ | refine JL.store_boxF 0 ty92 (.tmp rfl) rfl (.tmp rfl) (by first | rfl | assumption) (rfl) (BT.cs_length _ _) rfl ?_ | refine JL.store_boxF 0 ty92 (.tmp rfl) rfl (.tmp rfl) (by first | rfl | assumption) (BT.cs_length _ _) (rfl) rfl ?_ | refine JL.store_boxF 0 ty92 (.tmp rfl) rfl (.tmp rfl) (by first | rfl | assumption) (BT.cs_length _ _) (BT.cs_length _ _) rfl ?_ | refine JL.store_box 0 ty92 (.tmp rfl) rfl (.tmp rfl) (by first | rfl | assumption) rfl rfl rfl rfl ?_ | refine JL.store_box 0 ty92 (.tmp rfl) rfl (.tmp rfl) (by first | rfl | assumption) (BT.cs_length _ _) rfl rfl rfl ?_
              refine JL.q rfl rfl rfl (QW.assign .const) ?_
              refine JL.nil ?_
              refine thenQ.n ?_
              refine J.ret ?_
              refine thenQ.r ?_
              exact ⟨_, selP [.k, .k, .k] _, _, RetEv.two rfl (by first | exact REv.cell 0 ty92 rfl rfl rfl rfl (.aggL (.cons (.refl _) (.cons (.nil true false eIt) .nil))) | exact REv.cell 0 ty92 rfl rfl (take_at (BT.cs_length _ _) rfl) (BT.cs_length _ _) (.aggL (.cons (.refl _) (.cons (.nil true false eIt) .nil)))) (REv.tmp rfl (.refl _)), rfl, sel_perm [.k, .k, .k] _, ⟨congrArg Res.ret (addAV_of (q := ⟨la, l⟩) (seq := seq) (l := m) (q' := .nil) (f := 51) (by unfold BT.add; rw [if_neg (by simp [hok]), if_neg (by (try simp only); omega), if_neg (by (try simp only); omega), if_neg (by (try simp only); omega), if_neg (by simp [hE]), if_pos (by (try simp only); omega)])).symm, rfl⟩⟩
            · skip
              simp [ItT.css_length, numIt_length] at c6
              refine J.skip ?_
              refine thenQ.n ?_
              refine J.seq ?_
              refine J.closeM 2 hX rfl (by rw [List.length_append, ItT.css_length, ItT.css_length, numIt_length]; show _ * 104 ≤ _; unfold reach; omega) rfl (fun _ h => by cases h) fun F2 cl fl hF hle => ?_
              refine J.region_lit ?_
              refine JL.q rfl rfl rfl (by first | exact QW.load_box 1 ty92 (.tmp rfl) rfl rfl rfl | exact QW.load_box 1 ty92 (.tmp rfl) rfl (take_at (BT.cs_length _ _) rfl) (BT.cs_length _ _)) ?_
              refine JL.q rfl rfl rfl (QW.call gofn97 (.cons (Ev.le (Ev.le (.tmp rfl) (.aggL (.cons (.refl _) (.cons hle .nil)))) (.aggL (.cons (.refl _) (.cons (Le.slL (fun h => by cases h) (by simp [ItT.css]) (ItT.css_sz false _) (by rw [ItT.css_append, List.flatten_append, List.flatten_append]; exact LeL.append (ItT.css_le fr false (fun h => by cases h) l) (ItT.css_le fr2 false (fun h => by cases h) _))) .nil)))) .nil) (bclone_ok (fr := false) (q := ⟨seq, l ++ numIt seq 0 m⟩) Bc.mk (add_wf hw hm hs1 o3 hm32))) ?_
              first | refine JL.store_boxF 0 ty92 (.tmp rfl) rfl (.tmp rfl) (by first | rfl | assumption) (rfl) (rfl) rfl ?_ | refine JL.store_boxF 0 ty92 (.tmp rfl) rfl (.tmp rfl) (by first | rfl | assumption) (rfl) (BT.cs_length _ _) rfl ?_ | refine JL.store_boxF 0 ty92 (.tmp rfl) rfl (.tmp rfl) (by first | rfl | assumption) (BT.cs_length _ _) (rfl) rfl ?_ | refine JL.store_boxF 0 ty92 (.tmp rfl) rfl (.tmp rfl) (by first | rfl | assumption) (BT.cs_length _ _) (BT.cs_length _ _) rfl ?_ | refine JL.store_box 0 ty92 (.tmp rfl) rfl (.tmp rfl) (by first | rfl | assumption) rfl rfl rfl rfl ?_ | refine JL.store_box 0 ty92 (.tmp rfl) rfl (.tmp rfl) (by first | rfl | assumption) (BT.cs_length _ _) rfl rfl rfl ?_
              refine JL.q rfl rfl rfl (QW.assign .const) ?_
              refine JL.nil ?_
              refine thenQ.n ?_
              refine J.ret ?_
              exact ⟨_, selP [.k, .k] _, _, RetEv.two rfl (by first | exact REv.cell 0 ty92 rfl rfl rfl rfl (.refl _) | exact REv.cell 0 ty92 rfl rfl (take_at (BT.cs_length _ _) rfl) (BT.cs_length _ _) (.refl _)) (REv.tmp rfl (.refl _)), rfl, sel_perm [.k, .k] _, ⟨congrArg Res.ret (addAV_of (q := ⟨la, l⟩) (seq := seq) (l := m) (q' := ⟨seq, l ++ numIt seq 0 m⟩) (f := 0) (by unfold BT.add; rw [if_neg (by simp [hok]), if_neg (by (try simp only); omega), if_neg (by (try simp only); omega), if_neg (by (try simp only); omega), if_neg (by simp [hE]), if_neg (by (try simp only); omega)])).symm, rfl⟩⟩

theorem rbadd_ok {fr fr2 c2 : Bool} {q : BT} {m : List EvT} {ys : List AV} (hq : Bc fr q ys) (seq : Int) (hw : q.wf) (hm : EvT.wfs m) : Fn Try.prog 55 [.agg ys, .c (.int .i64 seq), .sl fr2 c2 eEv (EvT.css fr2 m)] (addAV q seq m) := by
  obtain ⟨la, l⟩ := q
  subst hq
  obtain ⟨hl1, hit⟩ := hw
  have hw : (BT.mk la l).wf := ⟨hl1, hit⟩
  simp only at hl1 hit
  have hlen := hit.len
  have hml := hm.len
  refine AC.of_J Try.func55 rfl Try.ntmps55 rfl fun w0 A0 => ?_
  refine J.seq ?_
  refine J.region_lit ?_
  refine JL.box_agg (.tmp rfl) rfl fun b3 => ?_
  refine JL.alloc z90 rfl rfl fun b6 => ?_
  refine JL.q rfl rfl rfl (QW.assign .const) ?_
  refine JL.nil ?_
  refine thenQ.n ?_
  refine J.seq ?_
  refine J.block ?_
  refine J.seq ?_
  refine J.region_lit ?_
  refine JL.q rfl rfl rfl (by first | exact QW.load_box 1 ty90 (.tmp rfl) rfl rfl rfl | exact QW.load_box 1 ty90 (.tmp rfl) rfl (take_at (BT.cs_length _ _) rfl) (BT.cs_length _ _)) ?_
  refine JL.q rfl rfl rfl (QW.call gofn64 (.cons (.tmp rfl) .nil) (rbcheck_ok Bc.mk hw)) ?_
  refine JL.q rfl rfl rfl (QW.neq (.tmp rfl) .const) ?_
  refine JL.q rfl rfl rfl (QW.assign (.tmp rfl)) ?_
  refine JL.nil ?_
  refine thenQ.n ?_
  refine J.cond (.tmp rfl) (fun c1 => ?_) (fun c1 => ?_)
  · skip
    simp at c1
    obtain ⟨hno, he9⟩ := BT.err_no c1
    refine J.seq ?_
    refine J.region_lit ?_
    refine JL.q rfl rfl rfl (QW.build (idx := []) pl90 z90 rfl .nil rfl rfl rfl rfl) ?_
    first | refine JL.store_boxF 0 ty90 (.tmp rfl) rfl (.tmp rfl) (by first | rfl | assumption) (rfl) (rfl) rfl ?_ | refine JL.store_boxF 0 ty90 (.tmp rfl) rfl (.tmp rfl) (by first | rfl | assumption) (rfl) (BT.cs_length _ _) rfl ?_ | refine JL.store_boxF 0 ty90 (.tmp rfl) rfl (.tmp rfl) (by first | rfl | assumption) (BT.cs_length _ _) (rfl) rfl ?_ | refine JL.store_boxF 0 ty90 (.tmp rfl) rfl (.tmp rfl) (by first | rfl | assumption) (BT.cs_length _ _) (BT.cs_length _ _) rfl ?_ | refine JL.store_box 0 ty90 (.tmp rfl) rfl (.tmp rfl) (by first | rfl | assumption) rfl rfl rfl rfl ?_ | refine JL.store_box 0 ty90 (.tmp rfl) rfl (.tmp rfl) (by first | rfl | assumption) (BT.cs_length _ _) rfl rfl rfl ?_
    refine JL.q rfl rfl rfl (QW.assign .const) ?_
    refine JL.nil ?_
    refine thenQ.n ?_
    refine J.ret ?_
    refine blkQ.r ?_
    refine thenQ.r ?_
    exact ⟨_, selP [.k, .k] _, _, RetEv.two rfl (by first | exact REv.cell 0 ty90 rfl rfl rfl rfl (.aggL (.cons (.refl _) (.cons (.nil true false eIt) .nil))) | exact REv.cell 0 ty90 rfl rfl (take_at (BT.cs_length _ _) rfl) (BT.cs_length _ _) (.aggL (.cons (.refl _) (.cons (.nil true false eIt) .nil)))) (REv.tmp rfl (.refl _)), rfl, sel_perm [.k, .k] _, ⟨congrArg Res.ret (addAV_of (q := ⟨la, l⟩) (seq := seq) (l := m) (q' := .nil) (f := 9) (by simp [BT.add, hno])).symm, rfl⟩⟩
  · skip
    simp at c1
    have hok := BT.err_ok.1 c1
    obtain ⟨o1, o2, o3, o4⟩ := BT.ok_inv hok
    simp only at o1 o2 o3 o4
    refine J.seq ?_
    refine J.region_lit ?_
    refine JL.q rfl rfl rfl (QW.move (.tmp rfl)) ?_
    refine JL.q rfl rfl rfl (QW.field_ptr fo90_0 (.tmp rfl) rfl) ?_
    refine JL.q rfl rfl rfl (QW.load_box1 1 ty3 (.tmp rfl) rfl rfl) ?_
    refine JL.q rfl rfl rfl (QW.leq (.tmp rfl) (.tmp rfl)) ?_
    refine JL.q rfl rfl rfl (QW.assign (.tmp rfl)) ?_
    refine JL.nil ?_
    refine thenQ.n ?_
    refine J.cond (.tmp rfl) (fun c2 => ?_) (fun c2 => ?_)
    · skip
      simp at c2
      refine J.seq ?_
      refine J.region_lit ?_
      refine JL.q rfl rfl rfl (QW.build (idx := []) pl90 z90 rfl .nil rfl rfl rfl rfl) ?_
      first | refine JL.store_boxF 0 ty90 (.tmp rfl) rfl (.tmp rfl) (by first | rfl | assumption) (rfl) (rfl) rfl ?_ | refine JL.store_boxF 0 ty90 (.tmp rfl) rfl (.tmp rfl) (by first | rfl | assumption) (rfl) (BT.cs_length _ _) rfl ?_ | refine JL.store_boxF 0 ty90 (.tmp rfl) rfl (.tmp rfl) (by first | rfl | assumption) (BT.cs_length _ _) (rfl) rfl ?_ | refine JL.store_boxF 0 ty90 (.tmp rfl) rfl (.tmp rfl) (by first | rfl | assumption) (BT.cs_length _ _) (BT.cs_length _ _) rfl ?_ | refine JL.store_box 0 ty90 (.tmp rfl) rfl (.tmp rfl) (by first | rfl | assumption) rfl rfl rfl rfl ?_ | refine JL.store_box 0 ty90 (.tmp rfl) rfl (.tmp rfl) (by first | rfl | assumption) (BT.cs_length _ _) rfl rfl rfl ?_
      refine JL.q rfl rfl rfl (QW.assign .const) ?_
      refine JL.nil ?_
      refine thenQ.n ?_
      refine J.ret ?_
      refine blkQ.r ?_
      refine thenQ.r ?_
      exact ⟨_, selP [.k, .k] _, _, RetEv.two rfl (by first | exact REv.cell 0 ty90 rfl rfl rfl rfl (.aggL (.cons (.refl _) (.cons (.nil true false eIt) .nil))) | exact REv.cell 0 ty90 rfl rfl (take_at (BT.cs_length _ _) rfl) (BT.cs_length _ _) (.aggL (.cons (.refl _) (.cons (.nil true false eIt) .nil)))) (REv.tmp rfl (.refl _)), rfl, sel_perm [.k, .k] _, ⟨congrArg Res.ret (addAV_of (q := ⟨la, l⟩) (seq := seq) (l := m) (q' := .nil) (f := 32) (by unfold BT.add; rw [if_neg (by simp [hok]), if_pos (by (try simp only); omega)])).symm, rfl⟩⟩
    · skip
      simp at c2
      refine J.seq ?_
      refine J.region_lit ?_
      refine JL.q rfl rfl rfl (QW.move (.tmp rfl)) ?_
      refine JL.q rfl rfl rfl (QW.gtr (.tmp rfl) .const) ?_
      refine JL.q rfl rfl rfl (QW.assign (.tmp rfl)) ?_
      refine JL.nil ?_
      refine thenQ.n ?_
      refine J.cond (.tmp rfl) (fun c3 => ?_) (fun c3 => ?_)
      · skip
        simp at c3
        refine J.seq ?_
        refine J.region_lit ?_
        refine JL.q rfl rfl rfl (QW.build (idx := []) pl90 z90 rfl .nil rfl rfl rfl rfl) ?_
        first | refine JL.store_boxF 0 ty90 (.tmp rfl) rfl (.tmp rfl) (by first | rfl | assumption) (rfl) (rfl) rfl ?_ | refine JL.store_boxF 0 ty90 (.tmp rfl) rfl (.tmp rfl) (by first | rfl | assumption) (rfl) (BT.cs_length _ _) rfl ?_ | refine JL.store_boxF 0 ty90 (.tmp rfl) rfl (.tmp rfl) (by first | rfl | assumption) (BT.cs_length _ _) (rfl) rfl ?_ | refine JL.store_boxF 0 ty90 (.tmp rfl) rfl (.tmp rfl) (by first | rfl | assumption) (BT.cs_length _ _) (BT.cs_length _ _) rfl ?_ | refine JL.store_box 0 ty90 (.tmp rfl) rfl (.tmp rfl) (by first | rfl | assumption) rfl rfl rfl rfl ?_ | refine JL.store_box 0 ty90 (.tmp rfl) rfl (.tmp rfl) (by first | rfl | assumption) (BT.cs_length _ _) rfl rfl rfl ?_
        refine JL.q rfl rfl rfl (QW.assign .const) ?_
        refine JL.nil ?_
        refine thenQ.n ?_
        refine J.ret ?_
        refine blkQ.r ?_
        refine thenQ.r ?_
        exact ⟨_, selP [.k, .k] _, _, RetEv.two rfl (by first | exact REv.cell 0 ty90 rfl rfl rfl rfl (.aggL (.cons (.refl _) (.cons (.nil true false eIt) .nil))) | exact REv.cell 0 ty90 rfl rfl (take_at (BT.cs_length _ _) rfl) (BT.cs_length _ _) (.aggL (.cons (.refl _) (.cons (.nil true false eIt) .nil)))) (REv.tmp rfl (.refl _)), rfl, sel_perm [.k, .k] _, ⟨congrArg Res.ret (addAV_of (q := ⟨la, l⟩) (seq := seq) (l := m) (q' := .nil) (f := 4) (by unfold BT.add; rw [if_neg (by simp [hok]), if_neg (by (try simp only); omega), if_pos (by (try simp only); omega)])).symm, rfl⟩⟩
      · skip
        simp at c3
        refine J.seq ?_
        refine J.region_lit ?_
        refine JL.q rfl rfl rfl (QW.move (.tmp rfl)) ?_
        refine JL.q rfl rfl rfl (by first | exact QW.len_slE sl91 (.tmp rfl) (ItT.css_length _ _) | exact QW.len_slE sl91 (.tmp rfl) (EvT.css_length _ _) | exact QW.len_sl sl91 (.tmp rfl) | exact QW.len_nil sl91 (.tmp rfl)) ?_
        refine JL.q rfl rfl rfl (QW.gtr (.tmp rfl) .const) ?_
        refine JL.q rfl rfl rfl (QW.assign (.tmp rfl)) ?_
        refine JL.nil ?_
        refine thenQ.n ?_
        refine J.cond (.tmp rfl) (fun c4 => ?_) (fun c4 => ?_)
        · skip
          simp [EvT.css_length] at c4
          refine J.seq ?_
          refine J.region_lit ?_
          refine JL.q rfl rfl rfl (QW.build (idx := []) pl90 z90 rfl .nil rfl rfl rfl rfl) ?_
          first | refine JL.store_boxF 0 ty90 (.tmp rfl) rfl (.tmp rfl) (by first | rfl | assumption) (rfl) (rfl) rfl ?_ | refine JL.store_boxF 0 ty90 (.tmp rfl) rfl (.tmp rfl) (by first | rfl | assumption) (rfl) (BT.cs_length _ _) rfl ?_ | refine JL.store_boxF 0 ty90 (.tmp rfl) rfl (.tmp rfl) (by first | rfl | assumption) (BT.cs_length _ _) (rfl) rfl ?_ | refine JL.store_boxF 0 ty90 (.tmp rfl) rfl (.tmp rfl) (by first | rfl | assumption) (BT.cs_length _ _) (BT.cs_length _ _) rfl ?_ | refine JL.store_box 0 ty90 (.tmp rfl) rfl (.tmp rfl) (by first | rfl | assumption) rfl rfl rfl rfl ?_ | refine JL.store_box 0 ty90 (.tmp rfl) rfl (.tmp rfl) (by first | rfl | assumption) (BT.cs_length _ _) rfl rfl rfl ?_
          refine JL.q rfl rfl rfl (QW.assign .const) ?_
          refine JL.nil ?_
          refine thenQ.n ?_
          refine J.ret ?_
          refine blkQ.r ?_
          refine thenQ.r ?_
          exact ⟨_, selP [.k, .k] _, _, RetEv.two rfl (by first | exact REv.cell 0 ty90 rfl rfl rfl rfl (.aggL (.cons (.refl _) (.cons (.nil true false eIt) .nil))) | exact REv.cell 0 ty90 rfl rfl (take_at (BT.cs_length _ _) rfl) (BT.cs_length _ _) (.aggL (.cons (.refl _) (.cons (.nil true false eIt) .nil)))) (REv.tmp rfl (.refl _)), rfl, sel_perm [.k, .k] _, ⟨congrArg Res.ret (addAV_of (q := ⟨la, l⟩) (seq := seq) (l := m) (q' := .nil) (f := 3) (by unfold BT.add; rw [if_neg (by simp [hok]), if_neg (by (try simp only); omega), if_neg (by (try simp only); omega), if_pos (by (try simp only); omega)])).symm, rfl⟩⟩
        · skip
          simp [EvT.css_length] at c4
          have hs1 : 0 ≤ seq ∧ seq ≤ 1099511627776 := by omega
          have hm32 : m.length ≤ 32 := by omega
          refine J.skip ?_
          refine blkQ.n ?_
          refine thenQ.n ?_
          refine J.seq ?_
          refine J.region_lit ?_
          refine JL.q rfl rfl rfl (by first | exact QW.load_box 1 ty90 (.tmp rfl) rfl rfl rfl | exact QW.load_box 1 ty90 (.tmp rfl) rfl (take_at (BT.cs_length _ _) rfl) (BT.cs_length _ _)) ?_
          refine JL.callRF [] gofn98 rfl Lent.nil (fun _ => (.cons (.tmp rfl) .nil)) (rbown_ok Bc.mk hw) (.inl rfl) fun x32 o32 h32 => ?_
          obtain ⟨v32, rfl, hs32, rfl⟩ := h32
          refine JL.alloc z90 rfl rfl fun b8 => ?_
          first | refine JL.store_boxF 0 ty90 (.tmp rfl) rfl (.tmp rfl) (by first | rfl | assumption) (rfl) (rfl) rfl ?_ | refine JL.store_boxF 0 ty90 (.tmp rfl) rfl (.tmp rfl) (by first | rfl | assumption) (rfl) (BT.cs_length _ _) rfl ?_ | refine JL.store_boxF 0 ty90 (.tmp rfl) rfl (.tmp rfl) (by first | rfl | assumption) (BT.cs_length _ _) (rfl) rfl ?_ | refine JL.store_boxF 0 ty90 (.tmp rfl) rfl (.tmp rfl) (by first | rfl | assumption) (BT.cs_length _ _) (BT.cs_length _ _) rfl ?_ | refine JL.store_box 0 ty90 (.tmp rfl) rfl (.tmp rfl) (by first | rfl | assumption) rfl rfl rfl rfl ?_ | refine JL.store_box 0 ty90 (.tmp rfl) rfl (.tmp rfl) (by first | rfl | assumption) (BT.cs_length _ _) rfl rfl rfl ?_
          refine JL.nil ?_
          refine thenQ.n ?_
          refine J.seq ?_
          refine J.region_lit ?_
          refine JL.q rfl rfl rfl (QW.move (.tmp rfl)) ?_
          refine JL.q rfl rfl rfl (QW.field_ptr fo90_0 (.tmp rfl) rfl) ?_
          refine JL.store_box 0 ty3 (.tmp rfl) rfl (.tmp rfl) (by first | rfl | assumption) rfl rfl rfl rfl ?_
          refine JL.nil ?_
          refine thenQ.n ?_
          refine J.seq ?_
          refine J.seq ?_
          refine J.region_lit ?_
          refine JL.q rfl rfl rfl (QW.assign .const) ?_
          refine JL.nil ?_
          refine thenQ.n ?_
          refine J.block ?_
          refine J.reown (own' := [_, _, _, _]) (Reown.refl _) ?_
          refine J.loopK (ι := Nat × Value) [1, 2, 6, 8] (fun ⟨j, v⟩ => [(9, .c (.int .i64 (j : Int)))]) (fun ⟨j, v⟩ oo => List.set (List.set oo 0 (.box b8 [.c (.int .i64 seq), .c v])) 3 (.arr v eIt (ItT.css true (l ++ numIt seq 0 (m.take j))))) (fun ⟨j, v⟩ => j ≤ m.length ∧ evsErr (m.take j) = 0) (fun ⟨j, v⟩ => m.length - j) ⟨0, v32⟩ (⟨Nat.zero_le _, rfl⟩) (Wk.re (.cons rfl (.refl _) (.cons rfl (.refl _) (.cons rfl (.refl _) (.cons rfl (.refl _) (.cons rfl (.refl _) .nil))))) (Reown.ofEq (by simp [numIt]; rfl)) (fun _ h => by first | exact h | simp [h])) ?_
          intro ⟨j, v⟩ ⟨hj, hE⟩
          refine J.conv (by (try simp only [stepsO, List.map_cons, List.map_nil, valO, nthO, curO, mrg, List.reverse_cons, List.reverse_nil, List.nil_append, List.cons_append, List.append_nil, List.getElem?_cons_zero, List.getElem?_cons_succ, Option.map_some, Option.getD_some, List.set_cons_zero, List.set_cons_succ, AV.cellsOf, splice_zero, splice_succ, Nat.zero_add, Nat.reduceAdd]); rfl) ?_
          refine J.seq ?_
          refine J.seq ?_
          refine J.region_lit ?_
          refine JL.q rfl rfl rfl (QW.move (.tmp rfl)) ?_
          refine JL.q rfl rfl rfl (QW.move (.tmp rfl)) ?_
          refine JL.q rfl rfl rfl (by first | exact QW.len_slE sl91 (.tmp rfl) (ItT.css_length _ _) | exact QW.len_slE sl91 (.tmp rfl) (EvT.css_length _ _) | exact QW.len_sl sl91 (.tmp rfl) | exact QW.len_nil sl91 (.tmp rfl)) ?_
          refine JL.q rfl rfl rfl (QW.lss (.tmp rfl) (.tmp rfl)) ?_
          refine JL.nil ?_
          refine thenQ.n ?_
          refine J.cond (.tmp rfl) (fun c5 => ?_) (fun c5 => ?_)
          · skip
            have hlt : j < m.length := by simpa [EvT.css_length] using c5
            refine J.skip ?_
            refine thenQ.n ?_
            refine J.seq ?_
            refine J.block ?_
            refine J.seq ?_
            refine J.seq ?_
            refine J.region_lit ?_
            refine JL.q rfl rfl rfl (QW.move (.tmp rfl)) ?_
            refine JL.q rfl rfl rfl (QW.move (.tmp rfl)) ?_
            refine JL.q rfl rfl rfl (QW.index_sl sl91 ty114 rfl (.tmp rfl) (.tmp rfl) (by first | rfl | omega | (simp; done)) (by exact EvT.css_getE _ hlt)) ?_
            refine JL.q rfl rfl rfl (QW.field_ref fo114_0 (.tmp rfl) rfl) ?_
            refine JL.q rfl rfl rfl (QW.load_ref1 ty9 (.tmp rfl) rfl) ?_
            refine JL.q rfl rfl rfl (QW.call gofn89 (.cons (.tmp rfl) .nil) (rname_ok _)) ?_
            refine JL.q rfl rfl rfl (QW.not (.tmp rfl)) ?_
            refine JL.nil ?_
            refine thenQ.n ?_
            refine J.cond (.tmp rfl) (fun c6 => ?_) (fun c6 => ?_)
            · skip
              simp at c6
              have hee : evErr (m[j]'hlt) = 31 := by simp [evErr, c6]
              refine J.seq ?_
              refine J.region_lit ?_
              refine JL.q rfl rfl rfl (QW.build (idx := []) pl90 z90 rfl .nil rfl rfl rfl rfl) ?_
              first | refine JL.store_boxF 1 ty90 (.tmp rfl) rfl (.tmp rfl) (by first | rfl | assumption) (rfl) (rfl) rfl ?_ | refine JL.store_boxF 1 ty90 (.tmp rfl) rfl (.tmp rfl) (by first | rfl | assumption) (rfl) (BT.cs_length _ _) rfl ?_ | refine JL.store_boxF 1 ty90 (.tmp rfl) rfl (.tmp rfl) (by first | rfl | assumption) (BT.cs_length _ _) (rfl) rfl ?_ | refine JL.store_boxF 1 ty90 (.tmp rfl) rfl (.tmp rfl) (by first | rfl | assumption) (BT.cs_length _ _) (BT.cs_length _ _) rfl ?_ | refine JL.store_box 1 ty90 (.tmp rfl) rfl (.tmp rfl) (by first | rfl | assumption) rfl rfl rfl rfl ?_ | refine JL.store_box 1 ty90 (.tmp rfl) rfl (.tmp rfl) (by first | rfl | assumption) (BT.cs_length _ _) rfl rfl rfl ?_
              refine JL.q rfl rfl rfl (QW.assign .const) ?_
              refine JL.nil ?_
              refine thenQ.n ?_
              refine J.ret ?_
              refine thenQ.r ?_
              refine blkQ.r ?_
              refine thenQ.r ?_
              refine thenQ.r ?_
              refine blkQ.r ?_
              refine thenQ.r ?_
              exact ⟨_, selP [.k, .k, .k, .k] _, _, RetEv.two rfl (by first | exact REv.cell 1 ty90 rfl rfl rfl rfl (.aggL (.cons (.refl _) (.cons (.nil true false eIt) .nil))) | exact REv.cell 1 ty90 rfl rfl (take_at (BT.cs_length _ _) rfl) (BT.cs_length _ _) (.aggL (.cons (.refl _) (.cons (.nil true false eIt) .nil)))) (REv.tmp rfl (.refl _)), rfl, sel_perm [.k, .k, .k, .k] _, ⟨congrArg Res.ret (addAV_of (q := ⟨la, l⟩) (seq := seq) (l := m) (q' := .nil) (f := 31) (by unfold BT.add; rw [if_neg (by simp [hok]), if_neg (by (try simp only); omega), if_neg (by (try simp only); omega), if_neg (by (try simp only); omega), evsErr_at hlt hE (by rw [hee]; decide), hee]; rfl)).symm, rfl⟩⟩
            · skip
              simp at c6
              refine J.skip ?_
              refine thenQ.n ?_
              refine J.seq ?_
              refine J.region_lit ?_
              refine JL.q rfl rfl rfl (QW.move (.tmp rfl)) ?_
              refine JL.q rfl rfl rfl (QW.move (.tmp rfl)) ?_
              refine JL.q rfl rfl rfl (QW.index_sl sl91 ty114 rfl (.tmp rfl) (.tmp rfl) (by first | rfl | omega | (simp; done)) (by exact EvT.css_getE _ hlt)) ?_
              refine JL.q rfl rfl rfl (QW.field_ref fo114_1 (.tmp rfl) rfl) ?_
              refine JL.q rfl rfl rfl (by first | exact QW.load_ref ty26 (.tmp rfl) rfl rfl | exact QW.load_ref ty26 (.tmp rfl) (take_at0 (V.cs_length _ _) rfl) (V.cs_length _ _)) ?_
              refine JL.q rfl rfl rfl (QW.call gofn25 (.cons (.tmp rfl) .nil) (rcheck_ok Vc.self (hm.2 _ (List.getElem_mem hlt)).arg)) ?_
              refine JL.q rfl rfl rfl (QW.assign (.tmp rfl)) ?_
              refine JL.nil ?_
              refine thenQ.n ?_
              refine J.seq ?_
              refine J.seq ?_
              refine J.region_lit ?_
              refine JL.q rfl rfl rfl (QW.move (.tmp rfl)) ?_
              refine JL.q rfl rfl rfl (QW.neq (.tmp rfl) .const) ?_
              refine JL.nil ?_
              refine thenQ.n ?_
              refine J.cond (.tmp rfl) (fun c7 => ?_) (fun c7 => ?_)
              · skip
                simp at c7
                have hee : evErr (m[j]'hlt) = (m[j]'hlt).arg.err := by simp [evErr, c6]
                refine J.seq ?_
                refine J.region_lit ?_
                refine JL.q rfl rfl rfl (QW.build (idx := []) pl90 z90 rfl .nil rfl rfl rfl rfl) ?_
                refine JL.q rfl rfl rfl (QW.move (.tmp rfl)) ?_
                first | refine JL.store_boxF 1 ty90 (.tmp rfl) rfl (.tmp rfl) (by first | rfl | assumption) (rfl) (rfl) rfl ?_ | refine JL.store_boxF 1 ty90 (.tmp rfl) rfl (.tmp rfl) (by first | rfl | assumption) (rfl) (BT.cs_length _ _) rfl ?_ | refine JL.store_boxF 1 ty90 (.tmp rfl) rfl (.tmp rfl) (by first | rfl | assumption) (BT.cs_length _ _) (rfl) rfl ?_ | refine JL.store_boxF 1 ty90 (.tmp rfl) rfl (.tmp rfl) (by first | rfl | assumption) (BT.cs_length _ _) (BT.cs_length _ _) rfl ?_ | refine JL.store_box 1 ty90 (.tmp rfl) rfl (.tmp rfl) (by first | rfl | assumption) rfl rfl rfl rfl ?_ | refine JL.store_box 1 ty90 (.tmp rfl) rfl (.tmp rfl) (by first | rfl | assumption) (BT.cs_length _ _) rfl rfl rfl ?_
                refine JL.q rfl rfl rfl (QW.assign (.tmp rfl)) ?_
                refine JL.nil ?_
                refine thenQ.n ?_
                refine J.ret ?_
                refine thenQ.r ?_
                refine blkQ.r ?_
                refine thenQ.r ?_
                refine thenQ.r ?_
                refine blkQ.r ?_
                refine thenQ.r ?_
                exact ⟨_, selP [.k, .k, .k, .k] _, _, RetEv.two rfl (by first | exact REv.cell 1 ty90 rfl rfl rfl rfl (.aggL (.cons (.refl _) (.cons (.nil true false eIt) .nil))) | exact REv.cell 1 ty90 rfl rfl (take_at (BT.cs_length _ _) rfl) (BT.cs_length _ _) (.aggL (.cons (.refl _) (.cons (.nil true false eIt) .nil)))) (REv.tmp rfl (.refl _)), rfl, sel_perm [.k, .k, .k, .k] _, ⟨congrArg Res.ret (addAV_of (q := ⟨la, l⟩) (seq := seq) (l := m) (q' := .nil) (f := (m[j]'hlt).arg.err) (by unfold BT.add; rw [if_neg (by simp [hok]), if_neg (by (try simp only); omega), if_neg (by (try simp only); omega), if_neg (by (try simp only); omega), evsErr_at hlt hE (by rw [hee]; exact c7), hee, if_pos c7])).symm, rfl⟩⟩
              · skip
                simp at c7
                have hee : evErr (m[j]'hlt) = 0 := by simp [evErr, c6, c7]
                refine J.skip ?_
                refine thenQ.n ?_
                refine J.region_tailK 13 mixed (by kernel_rfl) (by kernel_rfl) (by kernel_rfl) rfl ?_
                refine .cons [] rfl rfl rfl (.q rfl (QW.field_ptr fo90_1 (.tmp rfl) rfl)) ?_
                refine .cons [59] rfl rfl rfl (.q rfl (QW.load_box1 0 ty88 (.tmp rfl) rfl rfl)) ?_
                refine .cons [] rfl rfl rfl (.q rfl (QW.move (.tmp rfl))) ?_
                refine .cons [61] rfl rfl rfl (.q rfl (QW.mul .const (.tmp rfl) (by first | exact w64n (by first | rfl | omega | (simp; done)) (by omega) | exact w64 (by omega) | rfl))) ?_
                refine .cons [] rfl rfl rfl (.q rfl (QW.move (.tmp rfl))) ?_
                refine .cons [62, 63] rfl rfl rfl (.q rfl (QW.add (.tmp rfl) (.tmp rfl) (by first | exact w64n (by first | rfl | omega | (simp; done)) (by omega) | exact w64 (by omega) | rfl))) ?_
                refine .cons [] rfl rfl rfl (.q rfl (QW.move (.tmp rfl))) ?_
                refine .cons [] rfl rfl rfl (.q rfl (QW.move (.tmp rfl))) ?_
                refine .cons [65, 66] rfl rfl rfl (.q rfl (QW.index_sl sl91 ty114 rfl (.tmp rfl) (.tmp rfl) (by first | rfl | omega | (simp; done)) (by exact EvT.css_getE _ hlt))) ?_
                refine .cons [67] rfl rfl rfl (.q rfl (by first | exact QW.load_ref ty114 (.tmp rfl) rfl rfl | exact QW.load_ref ty114 (.tmp rfl) (take_at0 (EvT.cs_length _ _) rfl) (EvT.cs_length _ _))) ?_
                refine .cons [64, 68] rfl rfl rfl (.q rfl (QW.build (idx := [0, 1]) pl116 z116 rfl (.cons (.tmp rfl) (.cons (.tmp rfl) .nil)) rfl rfl rfl (by exact fill_it (EvT.cs_length _ _)))) ?_
                refine .cons [69] rfl rfl rfl (.q rfl (QW.call gofn99 (.cons (.tmp rfl) .nil) (rown08_ok (by first | exact Ic.self | exact Ic.mk) (numIt_wf1 hs1 (by omega) (hm.2 _ (List.getElem_mem hlt)))))) ?_
                refine .cons [70] rfl rfl rfl (.q rfl (QW.buildSlice (idx := [0]) (xs := [ItT.cs true ⟨32 * seq + (j : Int), m[j]'hlt⟩]) sl88 el116 z116 rfl (.cons (.tmp rfl) .nil) rfl rfl rfl rfl rfl (by exact fill_one (e := eIt) (z := ItT.cs true ⟨32 * seq + (j : Int), m[j]'hlt⟩) (ItT.cs_length _ _)) rfl (all_one (ItT.cs_length _ _)) rfl)) ?_
                refine .nil ?_
                refine JL.append 3 sl88 el116 rfl (.tmp rfl) rfl (srcA_sl sl88 (.tmp rfl)) (by rw [ItT.css_length, List.length_append, numIt_length, List.length_take]; simp; unfold reach; omega) rfl fun v72 => ?_
                refine JL.q rfl rfl rfl (QW.field_ptr fo90_1 (.tmp rfl) rfl) ?_
                refine JL.isSlice 3 rfl fun hs2 => ?_
                refine JL.store_box 0 ty88 (.tmp rfl) rfl (.tmp rfl) (by first | rfl | assumption) rfl rfl rfl rfl ?_
                refine JL.nil ?_
                refine blkQ.n ?_
                refine thenQ.n ?_
                refine J.region_lit ?_
                refine JL.q rfl rfl rfl (QW.move (.tmp rfl)) ?_
                refine JL.q rfl rfl rfl (QW.add (.tmp rfl) .const (by first | exact w64n (by first | rfl | omega | (simp; done)) (by omega) | exact w64 (by omega) | rfl)) ?_
                refine JL.q rfl rfl rfl (QW.assign (.tmp rfl)) ?_
                refine JL.nil ?_
                refine thenQ.n ?_
                exact ⟨⟨j + 1, v72⟩, ⟨hlt, evsErr_snoc hlt hE hee⟩, by show m.length - (j + 1) < m.length - j; omega, Wk.re (.cons rfl (.refl _) (.cons rfl (.refl _) (.cons rfl (.refl _) (.cons rfl (.refl _) (.cons rfl (.refl _) .nil))))) (Reown.ofEq (by show [Own.box b8 [.c (.int .i64 seq), .c v72], _, _, Own.arr v72 eIt (ItT.css true (l ++ numIt seq 0 (m.take j)) ++ [ItT.cs true ⟨32 * seq + (j : Int), m[j]'hlt⟩])] = _; rw [show ItT.css true (l ++ numIt seq 0 (m.take j)) ++ [ItT.cs true ⟨32 * seq + (j : Int), m[j]'hlt⟩] = ItT.css true (l ++ numIt seq 0 (m.take (j + 1))) by (rw [numIt_take hlt, ← List.append_assoc, ItT.css_append _ (l ++ _)]; rfl)]; rfl)) (fun _ h => by first | exact h | simp [h])⟩
          · skip
            have hge : m.length ≤ j := by (simp [EvT.css_length] at c5; omega)
            obtain rfl : j = m.length := by omega
            rw [List.take_length] at hE
            refine J.exit ?_
            refine thenQ.x ?_
            refine thenQ.x ?_
            refine blkQ.hit ?_
            refine thenQ.n ?_
            refine J.seq ?_
            refine J.seq ?_
            refine J.region_lit ?_
            refine JL.q rfl rfl rfl (QW.field_ptr fo90_1 (.tmp rfl) rfl) ?_
            refine JL.q rfl rfl rfl (QW.load_box1 0 ty88 (.tmp rfl) rfl rfl) ?_
            refine JL.q rfl rfl rfl (QW.len_arr 3 sl88 (.tmp rfl) rfl) ?_
            refine JL.q rfl rfl rfl (QW.gtr (.tmp rfl) .const) ?_
            refine JL.nil ?_
            refine thenQ.n ?_
            refine J.cond (.tmp rfl) (fun c6 => ?_) (fun c6 => ?_)
            · skip
              simp [ItT.css_length, numIt_length] at c6
              refine J.seq ?_
              refine J.region_lit ?_
              refine JL.q rfl rfl rfl (QW.build (idx := []) pl90 z90 rfl .nil rfl rfl rfl rfl) ?_
              first | refine JL.store_boxF 1 ty90 (.tmp rfl) rfl (.tmp rfl) (by first | rfl | assumption) (rfl) (rfl) rfl ?_ | refine JL.store_boxF 1 ty90 (.tmp rfl) rfl (.tmp rfl) (by first | rfl | assumption) (rfl) (BT.cs_length _ _) rfl ?_ | refine JL.store_boxF 1 ty90 (.tmp rfl) rfl (.tmp rfl) (by first | rfl | assumption) (BT.cs_length _ _) (rfl) rfl ?_ | refine JL.store_boxF 1 ty90 (.tmp rfl) rfl (.tmp rfl) (by first | rfl | assumption) (BT.cs_length _ _) (BT.cs_length _ _) rfl ?_ | refine JL.store_box 1 ty90 (.tmp rfl) rfl (.tmp rfl) (by first | rfl | assumption) rfl rfl rfl rfl ?_ | refine JL.store_box 1 ty90 (.tmp rfl) rfl (.tmp rfl) (by first | rfl | assumption) (BT.cs_length _ _) rfl rfl rfl ?_
              refine JL.q rfl rfl rfl (QW.assign .const) ?_
              refine JL.nil ?_
              refine thenQ.n ?_
              refine J.ret ?_
              refine thenQ.r ?_
              exact ⟨_, selP [.k, .k, .k, .k] _, _, RetEv.two rfl (by first | exact REv.cell 1 ty90 rfl rfl rfl rfl (.aggL (.cons (.refl _) (.cons (.nil true false eIt) .nil))) | exact REv.cell 1 ty90 rfl rfl (take_at (BT.cs_length _ _) rfl) (BT.cs_length _ _) (.aggL (.cons (.refl _) (.cons (.nil true false eIt) .nil)))) (REv.tmp rfl (.refl _)), rfl, sel_perm [.k, .k, .k, .k] _, ⟨congrArg Res.ret (addAV_of (q := ⟨la, l⟩) (seq := seq) (l := m) (q' := .nil) (f := 51) (by unfold BT.add; rw [if_neg (by simp [hok]), if_neg (by (try simp only); omega), if_neg (by (try simp only); omega), if_neg (by (try simp only); omega), if_neg (by simp [hE]), if_pos (by (try simp only); omega)])).symm, rfl⟩⟩
            · skip
              simp [ItT.css_length, numIt_length] at c6
              refine J.skip ?_
              refine thenQ.n ?_
              refine J.seq ?_
              rw [List.take_length]
              refine J.closeArr 3 rfl (by rw [ItT.css_length, List.length_append, numIt_length]; show _ * 104 ≤ _; unfold reach; omega) rfl (fun _ h => by cases h) ?_
              refine J.region_lit ?_
              refine JL.q rfl rfl rfl (by first | exact QW.load_box 0 ty90 (.tmp rfl) rfl rfl rfl | exact QW.load_box 0 ty90 (.tmp rfl) rfl (take_at (BT.cs_length _ _) rfl) (BT.cs_length _ _)) ?_
              first | refine JL.store_boxF 1 ty90 (.tmp rfl) rfl (.tmp rfl) (by first | rfl | assumption) (rfl) (rfl) rfl ?_ | refine JL.store_boxF 1 ty90 (.tmp rfl) rfl (.tmp rfl) (by first | rfl | assumption) (rfl) (BT.cs_length _ _) rfl ?_ | refine JL.store_boxF 1 ty90 (.tmp rfl) rfl (.tmp rfl) (by first | rfl | assumption) (BT.cs_length _ _) (rfl) rfl ?_ | refine JL.store_boxF 1 ty90 (.tmp rfl) rfl (.tmp rfl) (by first | rfl | assumption) (BT.cs_length _ _) (BT.cs_length _ _) rfl ?_ | refine JL.store_box 1 ty90 (.tmp rfl) rfl (.tmp rfl) (by first | rfl | assumption) rfl rfl rfl rfl ?_ | refine JL.store_box 1 ty90 (.tmp rfl) rfl (.tmp rfl) (by first | rfl | assumption) (BT.cs_length _ _) rfl rfl rfl ?_
              refine JL.q rfl rfl rfl (QW.assign .const) ?_
              refine JL.nil ?_
              refine thenQ.n ?_
              refine J.ret ?_
              exact ⟨_, selP [.k, .k, .k] _, _, RetEv.two rfl (by first | exact REv.cell 1 ty90 rfl rfl rfl rfl (.aggL (.cons (.refl _) (.cons (.fact (.head _) (.refl _)) .nil))) | exact REv.cell 1 ty90 rfl rfl (take_at (BT.cs_length _ _) rfl) (BT.cs_length _ _) (.aggL (.cons (.refl _) (.cons (.fact (.head _) (.refl _)) .nil)))) (REv.tmp rfl (.refl _)), rfl, sel_perm [.k, .k, .k] _, ⟨congrArg Res.ret (addAV_of (q := ⟨la, l⟩) (seq := seq) (l := m) (q' := ⟨seq, l ++ numIt seq 0 m⟩) (f := 0) (by unfold BT.add; rw [if_neg (by simp [hok]), if_neg (by (try simp only); omega), if_neg (by (try simp only); omega), if_neg (by (try simp only); omega), if_neg (by simp [hE]), if_neg (by (try simp only); omega)])).symm, rfl⟩⟩

end Go.Proofs.Ytkiankpmkglhcaa.J
