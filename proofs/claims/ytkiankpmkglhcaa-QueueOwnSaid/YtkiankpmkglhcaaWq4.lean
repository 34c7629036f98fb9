/- Walks: pushing and taking, by the program and by the page. -/
import Derived.Test.YtkiankpmkglhcaaWq3
namespace Go.Proofs.Ytkiankpmkglhcaa.J
open Go Go.RowKit
set_option linter.unusedVariables false
set_option linter.unusedSimpArgs false
set_option maxRecDepth 10000
set_option maxHeartbeats 4000000

theorem mix_le {F : List (Value × AV)} {fr fr2 : Bool} {l : List EvT} {e : EvT} : Le F (.sl true false eEv (EvT.css fr l ++ [e.cs fr2])) (.sl false false eEv (EvT.css false (l ++ [e]))) := by
  rw [EvT.css_append]
  refine .slL (fun h => by cases h) (by simp [EvT.css]) (fun y hy => ?_) ?_
  · rcases List.mem_append.1 hy with hy | hy
    · exact EvT.css_sz false l y hy
    · exact EvT.css_sz false [e] y hy
  · rw [List.flatten_append, List.flatten_append]
    refine LeL.append (EvT.css_le fr false (fun h => by cases h) l) ?_
    simpa [EvT.css] using EvT.cs_le fr2 false (fun h => by cases h) e

theorem qpush_ok {fr fr2 : Bool} {q : QT} {e : EvT} {ys zs : List AV} (hq : Qc fr q ys) (he : Ec fr2 e zs) (hw : q.wf) (hwe : e.wf) : Fn Try.prog 42 [.agg ys, .agg zs] (pushAV q e) := by
  obtain ⟨lim, la, l⟩ := q
  subst hq
  obtain ⟨hl1, hl2, hev⟩ := hw
  have hw : (QT.mk lim la l).wf := ⟨hl1, hl2, hev⟩
  simp only at hl1 hl2 hev
  have hlen := hev.len
  subst he
  refine AC.of_J Try.func42 rfl Try.ntmps42 rfl fun w0 A0 => ?_
  refine J.seq ?_
  refine J.region_lit ?_
  refine JL.box_agg (.tmp rfl) rfl fun b2 => ?_
  refine JL.box_agg (.tmp rfl) rfl fun b3 => ?_
  refine JL.alloc z58 rfl rfl fun b4 => ?_
  refine JL.q rfl rfl rfl (QW.assign .const) ?_
  refine JL.q rfl rfl rfl (QW.assign .const) ?_
  refine JL.nil ?_
  refine thenQ.n ?_
  refine J.seq ?_
  refine J.seq ?_
  refine J.region_lit ?_
  refine JL.q rfl rfl rfl (QW.load_box 2 ty58 (.tmp rfl) rfl rfl rfl) ?_
  refine JL.q rfl rfl rfl (QW.call gofn50 (.cons (.tmp rfl) .nil) (qcheck_ok Qc.mk hw)) ?_
  refine JL.q rfl rfl rfl (QW.assign (.tmp rfl)) ?_
  refine JL.nil ?_
  refine thenQ.n ?_
  refine J.seq ?_
  refine J.region_lit ?_
  refine JL.q rfl rfl rfl (QW.move (.tmp rfl)) ?_
  refine JL.q rfl rfl rfl (QW.neq (.tmp rfl) .const) ?_
  refine JL.nil ?_
  refine thenQ.n ?_
  refine J.cond (.tmp rfl) (fun c1 => ?_) (fun c1 => ?_)
  · skip
    simp at c1
    obtain ⟨hno, he9⟩ := QT.err_no c1
    refine J.seq ?_
    refine J.region_lit ?_
    refine JL.q rfl rfl rfl (QW.build (idx := []) pl58 z58 rfl .nil rfl rfl rfl rfl) ?_
    refine JL.q rfl rfl rfl (QW.move (.tmp rfl)) ?_
    first | refine JL.store_boxF 0 ty58 (.tmp rfl) rfl (.tmp rfl) (by first | rfl | assumption) (rfl) (rfl) rfl ?_ | refine JL.store_box 0 ty58 (.tmp rfl) rfl (.tmp rfl) (by first | rfl | assumption) rfl rfl rfl rfl ?_
    refine JL.q rfl rfl rfl (QW.assign .const) ?_
    refine JL.q rfl rfl rfl (QW.assign (.tmp rfl)) ?_
    refine JL.nil ?_
    refine thenQ.n ?_
    refine J.ret ?_
    refine thenQ.r ?_
    exact ⟨_, selP [.k, .k, .k] _, _, RetEv.three rfl (REv.cell 0 ty58 rfl rfl rfl rfl (.aggL (.cons (.refl _) (.cons (.refl _) (.cons (.nil true false eEv) .nil))))) (REv.tmp rfl (.refl _)) (REv.tmp rfl (.refl _)), rfl, sel_perm [.k, .k, .k] _, ⟨congrArg Res.ret (pushAV_of (q := ⟨lim, la, l⟩) (e := e) (q' := .nil) (n := 0) (f := (QT.mk lim la l).err) (by simp [QT.push, hno, he9])).symm, rfl⟩⟩
  · skip
    simp at c1
    have hok := QT.err_ok.1 c1
    obtain ⟨o1, o2, o3, o4, o5, -⟩ := QT.ok_inv hok
    simp only at o1 o2 o3 o4 o5
    refine J.skip ?_
    refine thenQ.n ?_
    refine J.seq ?_
    refine J.seq ?_
    refine J.region_lit ?_
    refine JL.q rfl rfl rfl (by first | exact QW.load_box 1 ty70 (.tmp rfl) rfl rfl rfl | exact QW.load_box 1 ty70 (.tmp rfl) rfl (take_at (EvT.cs_length _ _) rfl) (EvT.cs_length _ _)) ?_
    refine JL.q rfl rfl rfl (QW.call gofn84 (.cons (.tmp rfl) .nil) (event_ok Ec.self hwe)) ?_
    refine JL.q rfl rfl rfl (QW.assign (.tmp rfl)) ?_
    refine JL.nil ?_
    refine thenQ.n ?_
    refine J.seq ?_
    refine J.region_lit ?_
    refine JL.q rfl rfl rfl (QW.move (.tmp rfl)) ?_
    refine JL.q rfl rfl rfl (QW.neq (.tmp rfl) .const) ?_
    refine JL.nil ?_
    refine thenQ.n ?_
    refine J.cond (.tmp rfl) (fun c2 => ?_) (fun c2 => ?_)
    · skip
      simp at c2
      refine J.seq ?_
      refine J.region_lit ?_
      refine JL.q rfl rfl rfl (QW.build (idx := []) pl58 z58 rfl .nil rfl rfl rfl rfl) ?_
      refine JL.q rfl rfl rfl (QW.move (.tmp rfl)) ?_
      first | refine JL.store_boxF 0 ty58 (.tmp rfl) rfl (.tmp rfl) (by first | rfl | assumption) (rfl) (rfl) rfl ?_ | refine JL.store_box 0 ty58 (.tmp rfl) rfl (.tmp rfl) (by first | rfl | assumption) rfl rfl rfl rfl ?_
      refine JL.q rfl rfl rfl (QW.assign .const) ?_
      refine JL.q rfl rfl rfl (QW.assign (.tmp rfl)) ?_
      refine JL.nil ?_
      refine thenQ.n ?_
      refine J.ret ?_
      refine thenQ.r ?_
      exact ⟨_, selP [.k, .k, .k] _, _, RetEv.three rfl (REv.cell 0 ty58 rfl rfl rfl rfl (.aggL (.cons (.refl _) (.cons (.refl _) (.cons (.nil true false eEv) .nil))))) (REv.tmp rfl (.refl _)) (REv.tmp rfl (.refl _)), rfl, sel_perm [.k, .k, .k] _, ⟨congrArg Res.ret (pushAV_of (q := ⟨lim, la, l⟩) (e := e) (q' := .nil) (n := 0) (f := evErr e) (by simp [QT.push, hok, c2])).symm, rfl⟩⟩
    · skip
      simp at c2
      refine J.skip ?_
      refine thenQ.n ?_
      refine J.seq ?_
      refine J.seq ?_
      refine J.region_lit ?_
      refine JL.q rfl rfl rfl (QW.field_ptr fo58_2 (.tmp rfl) rfl) ?_
      refine JL.q rfl rfl rfl (QW.load_box1 2 ty56 (.tmp rfl) rfl rfl) ?_
      refine JL.q rfl rfl rfl (by first | exact QW.len_slE sl56 (.tmp rfl) (EvT.css_length _ _) | exact QW.len_sl sl56 (.tmp rfl) | exact QW.len_nil sl56 (.tmp rfl)) ?_
      refine JL.q rfl rfl rfl (QW.field_ptr fo58_0 (.tmp rfl) rfl) ?_
      refine JL.q rfl rfl rfl (QW.load_box1 2 ty3 (.tmp rfl) rfl rfl) ?_
      refine JL.q rfl rfl rfl (QW.eql (.tmp rfl) (.tmp rfl)) ?_
      refine JL.q rfl rfl rfl (QW.move (.tmp rfl)) ?_
      refine JL.g rfl rfl rfl rfl rfl (fun hg => (QW.field_ptr fo58_1 (.tmp rfl) rfl)) ?_
      refine JL.g rfl rfl rfl rfl rfl (fun hg => (QW.load_box1 2 ty3 (.when rfl hg) rfl rfl)) ?_
      refine JL.g rfl rfl rfl rfl rfl (fun hg => (QW.eql (.when rfl hg) .const)) ?_
      refine JL.q rfl rfl rfl (QW.pick_or (.tmp rfl) (.tmp rfl)) ?_
      refine JL.nil ?_
      refine thenQ.n ?_
      refine J.cond (.tmp rfl) (fun c3 => ?_) (fun c3 => ?_)
      · skip
        simp [EvT.css_length] at c3
        refine J.seq ?_
        refine J.region_lit ?_
        refine JL.q rfl rfl rfl (QW.build (idx := []) pl58 z58 rfl .nil rfl rfl rfl rfl) ?_
        first | refine JL.store_boxF 0 ty58 (.tmp rfl) rfl (.tmp rfl) (by first | rfl | assumption) (rfl) (rfl) rfl ?_ | refine JL.store_box 0 ty58 (.tmp rfl) rfl (.tmp rfl) (by first | rfl | assumption) rfl rfl rfl rfl ?_
        refine JL.q rfl rfl rfl (QW.assign .const) ?_
        refine JL.q rfl rfl rfl (QW.assign .const) ?_
        refine JL.nil ?_
        refine thenQ.n ?_
        refine J.ret ?_
        refine thenQ.r ?_
        exact ⟨_, selP [.k, .k, .k] _, _, RetEv.three rfl (REv.cell 0 ty58 rfl rfl rfl rfl (.aggL (.cons (.refl _) (.cons (.refl _) (.cons (.nil true false eEv) .nil))))) (REv.tmp rfl (.refl _)) (REv.tmp rfl (.refl _)), rfl, sel_perm [.k, .k, .k] _, ⟨congrArg Res.ret (pushAV_of (q := ⟨lim, la, l⟩) (e := e) (q' := .nil) (n := 0) (f := 51) (by simp [QT.push, hok, c2]; omega)).symm, rfl⟩⟩
      · skip
        simp [EvT.css_length] at c3
        refine J.skip ?_
        refine thenQ.n ?_
        refine J.seq ?_
        refine J.region_tailK 5 mixed (by kernel_rfl) (by kernel_rfl) (by kernel_rfl) rfl ?_
        refine .cons [] rfl rfl rfl (.q rfl (QW.field_ptr fo58_2 (.tmp rfl) rfl)) ?_
        refine .cons [33] rfl rfl rfl (.q rfl (QW.load_box1 2 ty56 (.tmp rfl) rfl rfl)) ?_
        refine .cons [34] rfl rfl rfl (.q rfl (QW.call gofn86 (.cons (.tmp rfl) .nil) (clipEv_ok _))) ?_
        refine .cons [] rfl rfl rfl (.q rfl (by first | exact QW.load_box 1 ty70 (.tmp rfl) rfl rfl rfl | exact QW.load_box 1 ty70 (.tmp rfl) rfl (take_at (EvT.cs_length _ _) rfl) (EvT.cs_length _ _))) ?_
        refine .cons [36] rfl rfl rfl (.q rfl (QW.buildSlice (idx := [0]) (xs := [e.cs fr2]) sl56 el70 z70 rfl (.cons (.tmp rfl) .nil) rfl rfl rfl rfl rfl (by exact fill_one (EvT.cs_length _ _)) rfl (all_one (EvT.cs_length _ _)) rfl)) ?_
        refine .nil ?_
        refine JL.q rfl rfl rfl (QW.appendQ sl56 el70 rfl (.tmp rfl) (srcA_sl sl56 (.tmp rfl)) (by first | decide | (simp; done) | omega) (by rw [EvT.css_length]; simp; unfold reach; omega)) ?_
        refine JL.q rfl rfl rfl (QW.call gofn85 (.cons (Ev.le (.tmp rfl) (mix_le)) .nil) (qclone_ok (fr := false) (c := false) (l := l ++ [e]) (hev.snoc hwe (by omega)))) ?_
        refine JL.q rfl rfl rfl (QW.field_ptr fo58_2 (.tmp rfl) rfl) ?_
        refine JL.store_box 2 ty56 (.tmp rfl) rfl (.tmp rfl) (by first | rfl | assumption) rfl rfl rfl rfl ?_
        refine JL.nil ?_
        refine thenQ.n ?_
        refine J.seq ?_
        refine J.region_lit ?_
        refine JL.q rfl rfl rfl (QW.field_ptr fo58_1 (.tmp rfl) rfl) ?_
        refine JL.q rfl rfl rfl (QW.load_box1 2 ty3 (.tmp rfl) rfl rfl) ?_
        refine JL.q rfl rfl rfl (QW.add (.tmp rfl) .const (by first | exact w64n (by first | rfl | omega | (simp; done)) (by omega) | exact w64 (by omega) | rfl)) ?_
        refine JL.q rfl rfl rfl (QW.field_ptr fo58_1 (.tmp rfl) rfl) ?_
        refine JL.store_box 2 ty3 (.tmp rfl) rfl (.tmp rfl) (by first | rfl | assumption) rfl rfl rfl rfl ?_
        refine JL.nil ?_
        refine thenQ.n ?_
        refine J.seq ?_
        refine J.region_outK 4 1 (fun os_ ow_ x_ o_ => match os_ with | [] => (x_ = .c undef ∧ o_ = ow_.set 0 (.box b4 [.c (.int .i64 lim), .c (.int .i64 (la + 1)), evsAV (l ++ [e])])) | _ => False) mixed (by kernel_rfl) (by kernel_rfl) (by kernel_rfl) rfl ?_
        refine OutK.quiet [] rfl rfl rfl (fun qs_ qv_ ql_ => by
            rcases qs_ with _ | ⟨⟨y0, p0⟩, qs_⟩
            · skip
              exact (.q rfl (QW.load_box 2 ty58 (.tmp rfl) rfl rfl rfl))
            rcases qs_ with _ | ⟨⟨y1, p1⟩, qs_⟩
            · skip
              obtain ⟨hr0, _⟩ := qv_
              obtain ⟨rfl, rfl⟩ := hr0
              exact (.q rfl (QW.load_box 2 ty58 (.tmp rfl) rfl rfl rfl))
            exact absurd ql_ (by simp)) ?_
        refine OutK.quiet [] rfl rfl rfl (fun qs_ qv_ ql_ => (.q rfl (QW.field_ptr fo58_1 (.tmp rfl) rfl))) ?_
        refine OutK.quiet [46] rfl rfl rfl (fun qs_ qv_ ql_ => by
            rcases qs_ with _ | ⟨⟨y0, p0⟩, qs_⟩
            · skip
              exact (.q rfl (QW.load_box1 2 ty3 (.tmp rfl) rfl rfl))
            rcases qs_ with _ | ⟨⟨y1, p1⟩, qs_⟩
            · skip
              obtain ⟨hr0, _⟩ := qv_
              obtain ⟨rfl, rfl⟩ := hr0
              exact (.q rfl (QW.load_box1 2 ty3 (.tmp rfl) rfl rfl))
            exact absurd ql_ (by simp)) ?_
        refine OutK.store [45] rfl (fun qs_ ow x o h ql_ => by
            obtain rfl : qs_ = [] := List.length_eq_zero_iff.1 (by simpa using ql_)
            exact h.1) rfl rfl rfl (fun qs_ qv_ ql_ => by
            obtain rfl : qs_ = [] := List.length_eq_zero_iff.1 ql_
            exact LStep.toR rfl (by first | exact LStep.store_boxF 0 ty58 (.tmp rfl) rfl (.tmp rfl) (by first | rfl | assumption) (rfl) (rfl) rfl | exact LStep.store_box 0 ty58 (.tmp rfl) rfl (.tmp rfl) (by first | rfl | assumption) rfl rfl rfl rfl) ⟨rfl, rfl⟩) ?_
        refine .nil fun qs_ qv_ ql_ => ?_
        obtain ⟨⟨y0, p0⟩, qs_, rfl⟩ : ∃ p t, qs_ = p :: t := by (cases qs_ with | nil => simp at ql_ | cons p t => exact ⟨p, t, rfl⟩)
        obtain rfl : qs_ = [] := List.length_eq_zero_iff.1 (by simpa using ql_)
        obtain ⟨hr0, _⟩ := qv_
        obtain ⟨rfl, rfl⟩ := hr0
        refine JL.conv (by (try simp only [stepsO, List.map_cons, List.map_nil, valO, nthO, curO, mrg, List.reverse_cons, List.reverse_nil, List.nil_append, List.cons_append, List.append_nil, List.getElem?_cons_zero, List.getElem?_cons_succ, Option.map_some, Option.getD_some, List.set_cons_zero, List.set_cons_succ, AV.cellsOf, splice_zero, splice_succ, Nat.zero_add, Nat.reduceAdd]); rfl) ?_
        refine JL.q rfl rfl rfl (QW.assign (.tmp rfl)) ?_
        refine JL.q rfl rfl rfl (QW.assign .const) ?_
        refine JL.nil ?_
        refine thenQ.n ?_
        refine J.ret ?_
        exact ⟨_, selP [.k, .k, .k] _, _, RetEv.three rfl (REv.cell 0 ty58 rfl rfl rfl rfl (.refl _)) (REv.tmp rfl (.refl _)) (REv.tmp rfl (.refl _)), rfl, sel_perm [.k, .k, .k] _, ⟨congrArg Res.ret (pushAV_of (q := ⟨lim, la, l⟩) (e := e) (q' := ⟨lim, la + 1, l ++ [e]⟩) (n := la + 1) (f := 0) (by simp [QT.push, hok, c2]; omega)).symm, rfl⟩⟩

theorem qtake_ok {fr : Bool} {q : QT} {ys : List AV} (hq : Qc fr q ys) (n : Int) (hw : q.wf) : Fn Try.prog 43 [.agg ys, .c (.int .i64 n)] (takeAV q n) := by
  obtain ⟨lim, la, l⟩ := q
  subst hq
  obtain ⟨hl1, hl2, hev⟩ := hw
  have hw : (QT.mk lim la l).wf := ⟨hl1, hl2, hev⟩
  simp only at hl1 hl2 hev
  have hlen := hev.len
  refine AC.of_J Try.func43 rfl Try.ntmps43 rfl fun w0 A0 => ?_
  refine J.seq ?_
  refine J.region_lit ?_
  refine JL.box_agg (.tmp rfl) rfl fun b2 => ?_
  refine JL.alloc z58 rfl rfl fun b4 => ?_
  refine JL.q rfl rfl rfl (QW.assign .const) ?_
  refine JL.q rfl rfl rfl (QW.assign .const) ?_
  refine JL.q rfl rfl rfl (QW.assign .const) ?_
  refine JL.nil ?_
  refine thenQ.n ?_
  refine J.seq ?_
  refine J.seq ?_
  refine J.region_lit ?_
  refine JL.q rfl rfl rfl (QW.load_box 1 ty58 (.tmp rfl) rfl rfl rfl) ?_
  refine JL.q rfl rfl rfl (QW.call gofn50 (.cons (.tmp rfl) .nil) (qcheck_ok Qc.mk hw)) ?_
  refine JL.q rfl rfl rfl (QW.assign (.tmp rfl)) ?_
  refine JL.nil ?_
  refine thenQ.n ?_
  refine J.seq ?_
  refine J.region_lit ?_
  refine JL.q rfl rfl rfl (QW.move (.tmp rfl)) ?_
  refine JL.q rfl rfl rfl (QW.neq (.tmp rfl) .const) ?_
  refine JL.nil ?_
  refine thenQ.n ?_
  refine J.cond (.tmp rfl) (fun c1 => ?_) (fun c1 => ?_)
  · skip
    simp at c1
    obtain ⟨hno, he9⟩ := QT.err_no c1
    refine J.seq ?_
    refine J.region_lit ?_
    refine JL.q rfl rfl rfl (QW.build (idx := []) pl58 z58 rfl .nil rfl rfl rfl rfl) ?_
    refine JL.q rfl rfl rfl (QW.move (.tmp rfl)) ?_
    first | refine JL.store_boxF 0 ty58 (.tmp rfl) rfl (.tmp rfl) (by first | rfl | assumption) (rfl) (rfl) rfl ?_ | refine JL.store_box 0 ty58 (.tmp rfl) rfl (.tmp rfl) (by first | rfl | assumption) rfl rfl rfl rfl ?_
    refine JL.q rfl rfl rfl (QW.assign .const) ?_
    refine JL.q rfl rfl rfl (QW.assign .const) ?_
    refine JL.q rfl rfl rfl (QW.assign (.tmp rfl)) ?_
    refine JL.nil ?_
    refine thenQ.n ?_
    refine J.ret ?_
    refine thenQ.r ?_
    exact ⟨_, selP [.k, .k] _, _, RetEv.four rfl (REv.cell 0 ty58 rfl rfl rfl rfl (.aggL (.cons (.refl _) (.cons (.refl _) (.cons (.nil true false eEv) .nil))))) (REv.tmp rfl (.nil true false eEv)) (REv.tmp rfl (.refl _)) (REv.tmp rfl (.refl _)), rfl, sel_perm [.k, .k] _, ⟨congrArg Res.ret (takeAV_of (q := ⟨lim, la, l⟩) (n := n) (q' := .nil) (l := []) (m := 0) (f := (QT.mk lim la l).err) (by simp [QT.take, hno, he9])).symm, rfl⟩⟩
  · skip
    simp at c1
    have hok := QT.err_ok.1 c1
    obtain ⟨o1, o2, o3, o4, o5, -⟩ := QT.ok_inv hok
    simp only at o1 o2 o3 o4 o5
    refine J.skip ?_
    refine thenQ.n ?_
    refine J.seq ?_
    refine J.seq ?_
    refine J.region_lit ?_
    refine JL.q rfl rfl rfl (QW.move (.tmp rfl)) ?_
    refine JL.q rfl rfl rfl (QW.lss (.tmp rfl) .const) ?_
    refine JL.nil ?_
    refine thenQ.n ?_
    refine J.cond (.tmp rfl) (fun c2 => ?_) (fun c2 => ?_)
    · skip
      simp at c2
      refine J.seq ?_
      refine J.region_lit ?_
      refine JL.q rfl rfl rfl (QW.build (idx := []) pl58 z58 rfl .nil rfl rfl rfl rfl) ?_
      first | refine JL.store_boxF 0 ty58 (.tmp rfl) rfl (.tmp rfl) (by first | rfl | assumption) (rfl) (rfl) rfl ?_ | refine JL.store_box 0 ty58 (.tmp rfl) rfl (.tmp rfl) (by first | rfl | assumption) rfl rfl rfl rfl ?_
      refine JL.q rfl rfl rfl (QW.assign .const) ?_
      refine JL.q rfl rfl rfl (QW.assign .const) ?_
      refine JL.q rfl rfl rfl (QW.assign .const) ?_
      refine JL.nil ?_
      refine thenQ.n ?_
      refine J.ret ?_
      refine thenQ.r ?_
      exact ⟨_, selP [.k, .k] _, _, RetEv.four rfl (REv.cell 0 ty58 rfl rfl rfl rfl (.aggL (.cons (.refl _) (.cons (.refl _) (.cons (.nil true false eEv) .nil))))) (REv.tmp rfl (.nil true false eEv)) (REv.tmp rfl (.refl _)) (REv.tmp rfl (.refl _)), rfl, sel_perm [.k, .k] _, ⟨congrArg Res.ret (takeAV_of (q := ⟨lim, la, l⟩) (n := n) (q' := .nil) (l := []) (m := 0) (f := 4) (by simp [QT.take, hok]; omega)).symm, rfl⟩⟩
    · skip
      simp at c2
      refine J.skip ?_
      refine thenQ.n ?_
      refine J.seq ?_
      refine J.region_lit ?_
      refine JL.q rfl rfl rfl (QW.move (.tmp rfl)) ?_
      refine JL.q rfl rfl rfl (QW.field_ptr fo58_2 (.tmp rfl) rfl) ?_
      refine JL.q rfl rfl rfl (QW.load_box1 1 ty56 (.tmp rfl) rfl rfl) ?_
      refine JL.q rfl rfl rfl (by first | exact QW.len_slE sl56 (.tmp rfl) (EvT.css_length _ _) | exact QW.len_sl sl56 (.tmp rfl) | exact QW.len_nil sl56 (.tmp rfl)) ?_
      refine JL.q rfl rfl rfl (QW.min2 (.tmp rfl) (.tmp rfl)) ?_
      refine JL.q rfl rfl rfl (QW.assign (.tmp rfl)) ?_
      refine JL.nil ?_
      refine thenQ.n ?_
      refine J.seq ?_
      refine J.region_lit ?_
      refine JL.q rfl rfl rfl (QW.assign .const) ?_
      refine JL.nil ?_
      refine thenQ.n ?_
      refine J.seq ?_
      refine J.seq ?_
      refine J.region_lit ?_
      refine JL.q rfl rfl rfl (QW.move (.tmp rfl)) ?_
      refine JL.q rfl rfl rfl (QW.gtr (.tmp rfl) .const) ?_
      refine JL.nil ?_
      refine thenQ.n ?_
      refine J.cond (.tmp rfl) (fun c3 => ?_) (fun c3 => ?_)
      · skip
        simp [EvT.css_length] at c3
        refine J.region_lit ?_
        refine JL.q rfl rfl rfl (QW.field_ptr fo58_1 (.tmp rfl) rfl) ?_
        refine JL.q rfl rfl rfl (QW.load_box1 1 ty3 (.tmp rfl) rfl rfl) ?_
        refine JL.q rfl rfl rfl (QW.field_ptr fo58_2 (.tmp rfl) rfl) ?_
        refine JL.q rfl rfl rfl (QW.load_box1 1 ty56 (.tmp rfl) rfl rfl) ?_
        refine JL.q rfl rfl rfl (by first | exact QW.len_slE sl56 (.tmp rfl) (EvT.css_length _ _) | exact QW.len_sl sl56 (.tmp rfl) | exact QW.len_nil sl56 (.tmp rfl)) ?_
        refine JL.q rfl rfl rfl (QW.sub (.tmp rfl) (.tmp rfl) (by first | exact w64n (by first | rfl | omega | (simp; done)) (by omega) | exact w64 (by omega) | rfl)) ?_
        refine JL.q rfl rfl rfl (QW.add (.tmp rfl) .const (by first | exact w64n (by first | rfl | omega | (simp; done)) (by omega) | exact w64 (by omega) | rfl)) ?_
        refine JL.q rfl rfl rfl (QW.assign (.tmp rfl)) ?_
        refine JL.nil ?_
        refine thenQ.n ?_
        refine J.seq ?_
        refine J.region_lit ?_
        refine JL.q rfl rfl rfl (QW.field_ptr fo58_2 (.tmp rfl) rfl) ?_
        refine JL.q rfl rfl rfl (QW.load_box1 1 ty56 (.tmp rfl) rfl rfl) ?_
        refine JL.q rfl rfl rfl (QW.move (.tmp rfl)) ?_
        refine JL.q rfl rfl rfl (QW.call gofn87 (.cons (.tmp rfl) (.cons (Ev.le (.tmp rfl) (Le.intE (by simp only [QT.cut, EvT.css_length]; split <;> omega))) .nil)) (split_ok (k := QT.cut ⟨lim, la, l⟩ n) (Nat.min_le_right _ _))) ?_
        refine JL.q rfl rfl rfl (QW.move (.tmp rfl)) ?_
        refine JL.q rfl rfl rfl (QW.extract (.tmp rfl) rfl) ?_
        refine JL.q rfl rfl rfl (QW.extract (.tmp rfl) rfl) ?_
        refine JL.q rfl rfl rfl (QW.assign (.tmp rfl)) ?_
        refine JL.q rfl rfl rfl (QW.assign (.tmp rfl)) ?_
        refine JL.nil ?_
        refine thenQ.n ?_
        refine J.seq ?_
        refine J.region_lit ?_
        refine JL.q rfl rfl rfl (QW.move (.tmp rfl)) ?_
        refine JL.q rfl rfl rfl (QW.call gofn85 (.cons (.tmp rfl) .nil) (qclone_ok (hev.drop _))) ?_
        refine JL.q rfl rfl rfl (QW.field_ptr fo58_2 (.tmp rfl) rfl) ?_
        refine JL.store_box 1 ty56 (.tmp rfl) rfl (.tmp rfl) (by first | rfl | assumption) rfl rfl rfl rfl ?_
        refine JL.nil ?_
        refine thenQ.n ?_
        refine J.seq ?_
        refine J.region_outK 6 1 (fun os_ ow_ x_ o_ => match os_ with | [] => (x_ = .c undef ∧ o_ = ow_.set 0 (.box b4 [.c (.int .i64 lim), .c (.int .i64 la), evsAV (l.drop (QT.cut ⟨lim, la, l⟩ n))])) | _ => False) mixed (by kernel_rfl) (by kernel_rfl) (by kernel_rfl) rfl ?_
        refine OutK.quiet [] rfl rfl rfl (fun qs_ qv_ ql_ => by
            rcases qs_ with _ | ⟨⟨y0, p0⟩, qs_⟩
            · skip
              exact (.q rfl (QW.load_box 1 ty58 (.tmp rfl) rfl rfl rfl))
            rcases qs_ with _ | ⟨⟨y1, p1⟩, qs_⟩
            · skip
              obtain ⟨hr0, _⟩ := qv_
              obtain ⟨rfl, rfl⟩ := hr0
              exact (.q rfl (QW.load_box 1 ty58 (.tmp rfl) rfl rfl rfl))
            exact absurd ql_ (by simp)) ?_
        refine OutK.quiet [] rfl rfl rfl (fun qs_ qv_ ql_ => (.q rfl (QW.move (.tmp rfl)))) ?_
        refine OutK.quiet [46] rfl rfl rfl (fun qs_ qv_ ql_ => (.q rfl (QW.call gofn85 (.cons (.tmp rfl) .nil) (qclone_ok (hev.take _))))) ?_
        refine OutK.quiet [] rfl rfl rfl (fun qs_ qv_ ql_ => (.q rfl (QW.move (.tmp rfl)))) ?_
        refine OutK.store [45] rfl (fun qs_ ow x o h ql_ => by
            obtain rfl : qs_ = [] := List.length_eq_zero_iff.1 (by simpa using ql_)
            exact h.1) rfl rfl rfl (fun qs_ qv_ ql_ => by
            obtain rfl : qs_ = [] := List.length_eq_zero_iff.1 ql_
            exact LStep.toR rfl (by first | exact LStep.store_boxF 0 ty58 (.tmp rfl) rfl (.tmp rfl) (by first | rfl | assumption) (rfl) (rfl) rfl | exact LStep.store_box 0 ty58 (.tmp rfl) rfl (.tmp rfl) (by first | rfl | assumption) rfl rfl rfl rfl) ⟨rfl, rfl⟩) ?_
        refine OutK.quiet [47] rfl rfl rfl (fun qs_ qv_ ql_ => (.q rfl (QW.assign (.tmp rfl)))) ?_
        refine .nil fun qs_ qv_ ql_ => ?_
        obtain ⟨⟨y0, p0⟩, qs_, rfl⟩ : ∃ p t, qs_ = p :: t := by (cases qs_ with | nil => simp at ql_ | cons p t => exact ⟨p, t, rfl⟩)
        obtain rfl : qs_ = [] := List.length_eq_zero_iff.1 (by simpa using ql_)
        obtain ⟨hr0, _⟩ := qv_
        obtain ⟨rfl, rfl⟩ := hr0
        refine JL.conv (by (try simp only [stepsO, List.map_cons, List.map_nil, valO, nthO, curO, mrg, List.reverse_cons, List.reverse_nil, List.nil_append, List.cons_append, List.append_nil, List.getElem?_cons_zero, List.getElem?_cons_succ, Option.map_some, Option.getD_some, List.set_cons_zero, List.set_cons_succ, AV.cellsOf, splice_zero, splice_succ, Nat.zero_add, Nat.reduceAdd]); rfl) ?_
        refine JL.q rfl rfl rfl (QW.assign (.tmp rfl)) ?_
        refine JL.q rfl rfl rfl (QW.assign .const) ?_
        refine JL.nil ?_
        refine thenQ.n ?_
        refine J.ret ?_
        have hc : 0 < QT.cut ⟨lim, la, l⟩ n := by (unfold QT.cut; simp only; split at c3 <;> omega)
        exact ⟨_, selP [.k, .k] _, _, RetEv.four rfl (REv.cell 0 ty58 rfl rfl rfl rfl (.refl _)) (REv.tmp rfl (.refl _)) (REv.tmp rfl (.refl _)) (REv.tmp rfl (.refl _)), rfl, sel_perm [.k, .k] _, ⟨congrArg Res.ret (takeAV_of (q := ⟨lim, la, l⟩) (n := n) (q' := ⟨lim, la, l.drop (QT.cut ⟨lim, la, l⟩ n)⟩) (l := l.take (QT.cut ⟨lim, la, l⟩ n)) (m := la - (l.length : Int) + 1) (f := 0) (by simp [QT.take, hok, hc]; omega)).symm, rfl⟩⟩
      · skip
        simp [EvT.css_length] at c3
        refine J.skip ?_
        refine thenQ.n ?_
        refine J.seq ?_
        refine J.region_lit ?_
        refine JL.q rfl rfl rfl (QW.field_ptr fo58_2 (.tmp rfl) rfl) ?_
        refine JL.q rfl rfl rfl (QW.load_box1 1 ty56 (.tmp rfl) rfl rfl) ?_
        refine JL.q rfl rfl rfl (QW.move (.tmp rfl)) ?_
        refine JL.q rfl rfl rfl (QW.call gofn87 (.cons (.tmp rfl) (.cons (Ev.le (.tmp rfl) (Le.intE (by simp only [QT.cut, EvT.css_length]; split <;> omega))) .nil)) (split_ok (k := QT.cut ⟨lim, la, l⟩ n) (Nat.min_le_right _ _))) ?_
        refine JL.q rfl rfl rfl (QW.move (.tmp rfl)) ?_
        refine JL.q rfl rfl rfl (QW.extract (.tmp rfl) rfl) ?_
        refine JL.q rfl rfl rfl (QW.extract (.tmp rfl) rfl) ?_
        refine JL.q rfl rfl rfl (QW.assign (.tmp rfl)) ?_
        refine JL.q rfl rfl rfl (QW.assign (.tmp rfl)) ?_
        refine JL.nil ?_
        refine thenQ.n ?_
        refine J.seq ?_
        refine J.region_lit ?_
        refine JL.q rfl rfl rfl (QW.move (.tmp rfl)) ?_
        refine JL.q rfl rfl rfl (QW.call gofn85 (.cons (.tmp rfl) .nil) (qclone_ok (hev.drop _))) ?_
        refine JL.q rfl rfl rfl (QW.field_ptr fo58_2 (.tmp rfl) rfl) ?_
        refine JL.store_box 1 ty56 (.tmp rfl) rfl (.tmp rfl) (by first | rfl | assumption) rfl rfl rfl rfl ?_
        refine JL.nil ?_
        refine thenQ.n ?_
        refine J.seq ?_
        refine J.region_outK 6 1 (fun os_ ow_ x_ o_ => match os_ with | [] => (x_ = .c undef ∧ o_ = ow_.set 0 (.box b4 [.c (.int .i64 lim), .c (.int .i64 la), evsAV (l.drop (QT.cut ⟨lim, la, l⟩ n))])) | _ => False) mixed (by kernel_rfl) (by kernel_rfl) (by kernel_rfl) rfl ?_
        refine OutK.quiet [] rfl rfl rfl (fun qs_ qv_ ql_ => by
            rcases qs_ with _ | ⟨⟨y0, p0⟩, qs_⟩
            · skip
              exact (.q rfl (QW.load_box 1 ty58 (.tmp rfl) rfl rfl rfl))
            rcases qs_ with _ | ⟨⟨y1, p1⟩, qs_⟩
            · skip
              obtain ⟨hr0, _⟩ := qv_
              obtain ⟨rfl, rfl⟩ := hr0
              exact (.q rfl (QW.load_box 1 ty58 (.tmp rfl) rfl rfl rfl))
            exact absurd ql_ (by simp)) ?_
        refine OutK.quiet [] rfl rfl rfl (fun qs_ qv_ ql_ => (.q rfl (QW.move (.tmp rfl)))) ?_
        refine OutK.quiet [46] rfl rfl rfl (fun qs_ qv_ ql_ => (.q rfl (QW.call gofn85 (.cons (.tmp rfl) .nil) (qclone_ok (hev.take _))))) ?_
        refine OutK.quiet [] rfl rfl rfl (fun qs_ qv_ ql_ => (.q rfl (QW.move (.tmp rfl)))) ?_
        refine OutK.store [45] rfl (fun qs_ ow x o h ql_ => by
            obtain rfl : qs_ = [] := List.length_eq_zero_iff.1 (by simpa using ql_)
            exact h.1) rfl rfl rfl (fun qs_ qv_ ql_ => by
            obtain rfl : qs_ = [] := List.length_eq_zero_iff.1 ql_
            exact LStep.toR rfl (by first | exact LStep.store_boxF 0 ty58 (.tmp rfl) rfl (.tmp rfl) (by first | rfl | assumption) (rfl) (rfl) rfl | exact LStep.store_box 0 ty58 (.tmp rfl) rfl (.tmp rfl) (by first | rfl | assumption) rfl rfl rfl rfl) ⟨rfl, rfl⟩) ?_
        refine OutK.quiet [47] rfl rfl rfl (fun qs_ qv_ ql_ => (.q rfl (QW.assign (.tmp rfl)))) ?_
        refine .nil fun qs_ qv_ ql_ => ?_
        obtain ⟨⟨y0, p0⟩, qs_, rfl⟩ : ∃ p t, qs_ = p :: t := by (cases qs_ with | nil => simp at ql_ | cons p t => exact ⟨p, t, rfl⟩)
        obtain rfl : qs_ = [] := List.length_eq_zero_iff.1 (by simpa using ql_)
        obtain ⟨hr0, _⟩ := qv_
        obtain ⟨rfl, rfl⟩ := hr0
        refine JL.conv (by (try simp only [stepsO, List.map_cons, List.map_nil, valO, nthO, curO, mrg, List.reverse_cons, List.reverse_nil, List.nil_append, List.cons_append, List.append_nil, List.getElem?_cons_zero, List.getElem?_cons_succ, Option.map_some, Option.getD_some, List.set_cons_zero, List.set_cons_succ, AV.cellsOf, splice_zero, splice_succ, Nat.zero_add, Nat.reduceAdd]); rfl) ?_
        refine JL.q rfl rfl rfl (QW.assign (.tmp rfl)) ?_
        refine JL.q rfl rfl rfl (QW.assign .const) ?_
        refine JL.nil ?_
        refine thenQ.n ?_
        refine J.ret ?_
        have hc : QT.cut ⟨lim, la, l⟩ n = 0 := by (unfold QT.cut; simp only; split at c3 <;> omega)
        exact ⟨_, selP [.k, .k] _, _, RetEv.four rfl (REv.cell 0 ty58 rfl rfl rfl rfl (.refl _)) (REv.tmp rfl (.refl _)) (REv.tmp rfl (.refl _)) (REv.tmp rfl (.refl _)), rfl, sel_perm [.k, .k] _, ⟨congrArg Res.ret (takeAV_of (q := ⟨lim, la, l⟩) (n := n) (q' := ⟨lim, la, l.drop (QT.cut ⟨lim, la, l⟩ n)⟩) (l := l.take (QT.cut ⟨lim, la, l⟩ n)) (m := 0) (f := 0) (by simp [QT.take, hok, hc]; omega)).symm, rfl⟩⟩

end Go.Proofs.Ytkiankpmkglhcaa.J
