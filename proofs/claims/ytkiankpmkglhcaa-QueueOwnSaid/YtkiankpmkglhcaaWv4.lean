/- Walks: sizes and checks of values. -/
import Derived.Test.YtkiankpmkglhcaaWv3
namespace Go.Proofs.Ytkiankpmkglhcaa.J
open Go Go.RowKit
set_option linter.unusedVariables false
set_option linter.unusedSimpArgs false
set_option maxRecDepth 10000
set_option maxHeartbeats 4000000

theorem zeroErrno (w : World) : (zeroValue 28).run Try.prog w = .ok (.int .i64 0) w := by kernel_rfl
def ibox (b : Nat) (n : Int) : Own := .box b [.c (.int .i64 n)]

theorem size1_ret (a b c : Nat) (x y z : Int) : DC Try.prog 72 [ibox c z, ibox b y, ibox a x] [.c (.pointer (some ⟨a, 0, none⟩)), .c (.pointer (some ⟨b, 0, none⟩)), .c (.pointer (some ⟨c, 0, none⟩))] .returning fun r u' o => r = .ret (.tup []) ∧ u' = .returning ∧ o = [ibox c z, ibox b y, ibox a x] := by
  refine DC.of_JD Try.func72 rfl Try.ntmps72 rfl fun w0 A0 => ?_
  refine JD.seq ?_
  refine JD.region_recover rfl rfl (.inl ⟨rfl, rfl, rfl⟩) rfl ?_
  refine JL.q rfl rfl rfl (QW.assert_nil ⟨_, Try.underlying28, by intro ms h; cases h⟩ zeroErrno (.tmp rfl)) ?_
  refine JL.q rfl rfl rfl (QW.move (.tmp rfl)) ?_
  refine JL.q rfl rfl rfl (QW.extract (.tmp rfl) rfl) ?_
  refine JL.q rfl rfl rfl (QW.extract (.tmp rfl) rfl) ?_
  refine JL.q rfl rfl rfl (QW.assign (.tmp rfl)) ?_
  refine JL.q rfl rfl rfl (QW.assign (.tmp rfl)) ?_
  refine JL.nil ?_
  refine thenD.nn ?_
  refine JD.of_J rfl ?_
  refine J.seq ?_
  refine J.region_lit ?_
  refine JL.q rfl rfl rfl (QW.move (.tmp rfl)) ?_
  refine JL.nil ?_
  refine thenQ.n ?_
  refine J.cond (.tmp rfl) (fun c1 => absurd c1 (by simp)) (fun c1 => ?_)
  refine J.skip ?_
  exact ⟨_, selP [.p, .p, .p] _, _, RetEv.none rfl , rfl, sel_perm [.p, .p, .p] _, ⟨rfl, rfl, rfl⟩⟩

theorem size1_pan (a b c : Nat) (x y z e : Int) : DC Try.prog 72 [ibox c z, ibox b y, ibox a x] [.c (.pointer (some ⟨a, 0, none⟩)), .c (.pointer (some ⟨b, 0, none⟩)), .c (.pointer (some ⟨c, 0, none⟩))] (.panicking [{ v := errV e, recovered := false }]) fun r u' o => r = .ret (.tup []) ∧ u' = .panicking [{ v := errV e, recovered := true }] ∧ o = [ibox c e, ibox b 0, ibox a 0] := by
  refine DC.of_JD Try.func72 rfl Try.ntmps72 rfl fun w0 A0 => ?_
  refine JD.seq ?_
  refine JD.region_recover rfl rfl (.inr ⟨[], rfl, rfl⟩) rfl ?_
  refine JL.q rfl rfl rfl (QW.assert_hit ⟨_, Try.underlying28, by intro ms h; cases h⟩ (.tmp rfl)) ?_
  refine JL.q rfl rfl rfl (QW.move (.tmp rfl)) ?_
  refine JL.q rfl rfl rfl (QW.extract (.tmp rfl) rfl) ?_
  refine JL.q rfl rfl rfl (QW.extract (.tmp rfl) rfl) ?_
  refine JL.q rfl rfl rfl (QW.assign (.tmp rfl)) ?_
  refine JL.q rfl rfl rfl (QW.assign (.tmp rfl)) ?_
  refine JL.nil ?_
  refine thenD.nn ?_
  refine JD.of_J rfl ?_
  refine J.seq ?_
  refine J.region_lit ?_
  refine JL.q rfl rfl rfl (QW.move (.tmp rfl)) ?_
  refine JL.nil ?_
  refine thenQ.n ?_
  refine J.cond (.tmp rfl) (fun c1 => ?_) (fun c1 => absurd c1 (by simp))
  refine J.region_lit ?_
  refine JL.q rfl rfl rfl (QW.move (.tmp rfl)) ?_
  refine JL.store_box 2 ty3 (.tmp rfl) rfl .const (by first | rfl | assumption) rfl rfl rfl rfl ?_
  refine JL.store_box 1 ty3 (.tmp rfl) rfl .const (by first | rfl | assumption) rfl rfl rfl rfl ?_
  refine JL.store_box 0 ty28 (.tmp rfl) rfl (.tmp rfl) (by first | rfl | assumption) rfl rfl rfl rfl ?_
  refine JL.nil ?_
  exact ⟨_, selP [.p, .p, .p] _, _, RetEv.none rfl , rfl, sel_perm [.p, .p, .p] _, ⟨rfl, rfl, rfl⟩⟩

def sizeAV (v : V) : AV := .tup [.c (.int .i64 (if v.err = 0 then v.cnt else 0)), .c (.int .i64 (if v.err = 0 then v.depth else 0)), .c (.int .i64 v.err)]
theorem sizeAV_ok {v : V} {n d : Int} (h : v.err = 0) (hn : n = v.cnt) (hd : d = v.depth) : sizeAV v = .tup [.c (.int .i64 n), .c (.int .i64 d), .c (.int .i64 0)] := by
  subst hn hd; simp [sizeAV, h]
theorem sizeAV_no {v : V} {e : Int} (h : ¬ v.err = 0) (he : e = v.err) : sizeAV v = .tup [.c (.int .i64 0), .c (.int .i64 0), .c (.int .i64 e)] := by
  subst he; simp [sizeAV, h]

theorem size_ok {fr : Bool} {v : V} {ys : List AV} (hv : Vc fr v ys) (hw : v.wf) : Fn Try.prog 21 [.agg ys] (sizeAV v) := by
  subst hv
  refine AC.of_JD Try.func21 rfl Try.ntmps21 rfl fun w0 A0 => ?_
  refine J.seq ?_
  refine J.region_lit ?_
  refine JL.box_agg (.tmp rfl) rfl fun b1 => ?_
  refine JL.alloc z3 rfl rfl fun b2 => ?_
  refine JL.alloc z3 rfl rfl fun b3 => ?_
  refine JL.alloc z28 rfl rfl fun b4 => ?_
  refine JL.nil ?_
  refine thenQ.n ?_
  refine J.seq ?_
  refine J.region_lit ?_
  refine JL.q rfl rfl rfl (QW.mkFunc .nil (.cons (.tmp rfl) (.cons (.tmp rfl) (.cons (.tmp rfl) .nil)))) ?_
  refine JL.defer rfl (.tmp rfl) ?_
  refine JL.nil ?_
  refine thenQ.n ?_
  refine J.seq ?_
  refine J.region_lit ?_
  refine JL.alloc z127 rfl rfl fun b5 => ?_
  refine JL.nil ?_
  refine thenQ.n ?_
  refine J.seq ?_
  refine J.region_lit ?_
  refine JL.q rfl rfl rfl (by first | exact QW.load_box 4 ty26 (.tmp rfl) rfl rfl rfl | exact QW.load_box 4 ty26 (.tmp rfl) rfl (take_at (V.cs_length _ _) rfl) (V.cs_length _ _)) ?_
  refine JL.callPF [.p] gofn73 rfl Lent.nil (fun _ => (.cons (.tmp rfl) (.cons (.tmp rfl) (.cons .const .nil)))) (walk_n _ Vc.self hw (by omega) (by omega) (Nat.le_refl _)) (.inl rfl) (fun k8 x8 o8 h8 => ?_) (fun k8 => ?_)
  rotate_left
  · skip
    refine thenQ.p ?_
    exact ⟨_, _, [], [_, _, _], selP [.p, .p, .p] _, _, rfl, rfl, gofn72, sel_perm [.p, .p, .p] _, DC.mono (size1_pan _ _ _ _ _ _ _) fun r u' o ⟨h1, h2, h3⟩ => by subst h1 h2 h3; exact ⟨⟨_, rfl⟩, rfl, _, [], _, RetEv.three rfl (REv.cell1 2 ty3 rfl rfl rfl (.refl _)) (REv.cell1 1 ty3 rfl rfl rfl (.refl _)) (REv.cell1 0 ty28 rfl rfl rfl (.refl _)), List.Perm.refl _, (congrArg Res.ret (sizeAV_no k8 rfl)).symm, rfl⟩⟩
  obtain ⟨rfl, rfl⟩ := h8
  refine JL.nil ?_
  refine thenQ.n ?_
  refine J.seq ?_
  refine J.region_outK 5 1 (fun os_ ow_ x_ o_ => match os_ with | [] => (x_ = .c undef ∧ o_ = ow_.set 3 (ibox b2 (v.chk 1 0).2)) | _ => False) mixed (by kernel_rfl) (by kernel_rfl) (by kernel_rfl) rfl ?_
  refine OutK.quiet [] rfl rfl rfl (fun qs_ qv_ ql_ => (.q rfl (QW.field_ptr fo127_0 (.tmp rfl) rfl))) ?_
  refine OutK.quiet [9] rfl rfl rfl (fun qs_ qv_ ql_ => by
      rcases qs_ with _ | ⟨⟨y0, p0⟩, qs_⟩
      · skip
        exact (.q rfl (QW.load_box1 0 ty3 (.tmp rfl) rfl rfl))
      rcases qs_ with _ | ⟨⟨y1, p1⟩, qs_⟩
      · skip
        obtain ⟨hr0, _⟩ := qv_
        obtain ⟨rfl, rfl⟩ := hr0
        exact (.q rfl (QW.load_box1 0 ty3 (.tmp rfl) rfl rfl))
      exact absurd ql_ (by simp)) ?_
  refine OutK.quiet [] rfl rfl rfl (fun qs_ qv_ ql_ => (.q rfl (QW.field_ptr fo127_1 (.tmp rfl) rfl))) ?_
  refine OutK.quiet [11] rfl rfl rfl (fun qs_ qv_ ql_ => by
      rcases qs_ with _ | ⟨⟨y0, p0⟩, qs_⟩
      · skip
        exact (.q rfl (QW.load_box1 0 ty3 (.tmp rfl) rfl rfl))
      rcases qs_ with _ | ⟨⟨y1, p1⟩, qs_⟩
      · skip
        obtain ⟨hr0, _⟩ := qv_
        obtain ⟨rfl, rfl⟩ := hr0
        exact (.q rfl (QW.load_box1 0 ty3 (.tmp rfl) rfl rfl))
      exact absurd ql_ (by simp)) ?_
  refine OutK.store [10] rfl (fun qs_ ow x o h ql_ => by
      obtain rfl : qs_ = [] := List.length_eq_zero_iff.1 (by simpa using ql_)
      exact h.1) rfl rfl rfl (fun qs_ qv_ ql_ => by
      obtain rfl : qs_ = [] := List.length_eq_zero_iff.1 ql_
      exact LStep.toR rfl (LStep.store_box 3 ty3 (.tmp rfl) rfl (.tmp rfl) (by first | rfl | assumption) rfl rfl rfl rfl) ⟨rfl, rfl⟩) ?_
  refine .nil fun qs_ qv_ ql_ => ?_
  obtain ⟨⟨y0, p0⟩, qs_, rfl⟩ : ∃ p t, qs_ = p :: t := by (cases qs_ with | nil => simp at ql_ | cons p t => exact ⟨p, t, rfl⟩)
  obtain rfl : qs_ = [] := List.length_eq_zero_iff.1 (by simpa using ql_)
  obtain ⟨hr0, _⟩ := qv_
  obtain ⟨rfl, rfl⟩ := hr0
  refine JL.conv (by (try simp only [stepsO, List.map_cons, List.map_nil, valO, nthO, curO, mrg, List.reverse_cons, List.reverse_nil, List.nil_append, List.cons_append, List.append_nil, List.getElem?_cons_zero, List.getElem?_cons_succ, Option.map_some, Option.getD_some, List.set_cons_zero, List.set_cons_succ, AV.cellsOf, splice_zero, splice_succ, Nat.zero_add, Nat.reduceAdd]); rfl) ?_
  refine JL.store_box 2 ty3 (.tmp rfl) rfl (.tmp rfl) (by first | rfl | assumption) rfl rfl rfl rfl ?_
  refine JL.store_box 1 ty28 (.tmp rfl) rfl .const (by first | rfl | assumption) rfl rfl rfl rfl ?_
  refine JL.nil ?_
  refine thenQ.n ?_
  refine J.ret ?_
  exact ⟨_, _, [], [_, _, _], selP [.k, .p, .p, .p] _, _, rfl, rfl, gofn72, sel_perm [.k, .p, .p, .p] _, DC.mono (size1_ret _ _ _ _ _ _) fun r u' o ⟨h1, h2, h3⟩ => by subst h1 h2 h3; exact ⟨⟨_, rfl⟩, rfl, _, [], _, RetEv.three rfl (REv.cell1 2 ty3 rfl rfl rfl (.refl _)) (REv.cell1 1 ty3 rfl rfl rfl (.refl _)) (REv.cell1 0 ty28 rfl rfl rfl (.refl _)), List.Perm.refl _, (congrArg Res.ret (sizeAV_ok k8 rfl (by have := V.chk_depth v 1 0 k8; omega))).symm, rfl⟩⟩

theorem check_ok {fr : Bool} {v : V} {ys : List AV} (hv : Vc fr v ys) (hw : v.wf) : Fn Try.prog 24 [.agg ys] (.c (.int .i64 v.err)) := by
  subst hv
  refine AC.of_J Try.func24 rfl Try.ntmps24 rfl fun w0 A0 => ?_
  refine J.seq ?_
  refine J.region_lit ?_
  refine JL.box_agg (.tmp rfl) rfl fun b1 => ?_
  refine JL.q rfl rfl rfl (QW.assign .const) ?_
  refine JL.nil ?_
  refine thenQ.n ?_
  refine J.seq ?_
  refine J.region_lit ?_
  refine JL.q rfl rfl rfl (by first | exact QW.load_box 0 ty26 (.tmp rfl) rfl rfl rfl | exact QW.load_box 0 ty26 (.tmp rfl) rfl (take_at (V.cs_length _ _) rfl) (V.cs_length _ _)) ?_
  refine JL.q rfl rfl rfl (QW.call gofn21 (.cons (.tmp rfl) .nil) (size_ok (by first | exact Vc.self | exact Vc.mk) (by assumption))) ?_
  refine JL.q rfl rfl rfl (QW.move (.tmp rfl)) ?_
  refine JL.q rfl rfl rfl (QW.extract (.tmp rfl) rfl) ?_
  refine JL.q rfl rfl rfl (QW.extract (.tmp rfl) rfl) ?_
  refine JL.q rfl rfl rfl (QW.extract (.tmp rfl) rfl) ?_
  refine JL.q rfl rfl rfl (QW.assign (.tmp rfl)) ?_
  refine JL.q rfl rfl rfl (QW.assign (.tmp rfl)) ?_
  refine JL.q rfl rfl rfl (QW.assign (.tmp rfl)) ?_
  refine JL.nil ?_
  refine thenQ.n ?_
  refine J.seq ?_
  refine J.region_lit ?_
  refine JL.q rfl rfl rfl (QW.move (.tmp rfl)) ?_
  refine JL.q rfl rfl rfl (QW.assign (.tmp rfl)) ?_
  refine JL.nil ?_
  refine thenQ.n ?_
  refine J.ret ?_
  exact ⟨_, selP [.k] _, _, RetEv.one rfl (REv.tmp rfl (.refl _)), rfl, sel_perm [.k] _, ⟨rfl, rfl⟩⟩

theorem rsize_ok {fr : Bool} {v : V} {ys : List AV} (hv : Vc fr v ys) (hw : v.wf) : Fn Try.prog 22 [.agg ys] (sizeAV v) := by
  subst hv
  refine AC.of_J Try.func22 rfl Try.ntmps22 rfl fun w0 A0 => ?_
  refine J.seq ?_
  refine J.region_lit ?_
  refine JL.box_agg (.tmp rfl) rfl fun b1 => ?_
  refine JL.q rfl rfl rfl (QW.assign .const) ?_
  refine JL.q rfl rfl rfl (QW.assign .const) ?_
  refine JL.q rfl rfl rfl (QW.assign .const) ?_
  refine JL.nil ?_
  refine thenQ.n ?_
  refine J.seq ?_
  refine J.region_lit ?_
  refine JL.q rfl rfl rfl (by first | exact QW.load_box 0 ty26 (.tmp rfl) rfl rfl rfl | exact QW.load_box 0 ty26 (.tmp rfl) rfl (take_at (V.cs_length _ _) rfl) (V.cs_length _ _)) ?_
  refine JL.callRF [] gofn74 rfl Lent.nil (fun _ => (.cons (.tmp rfl) (.cons .const (.cons .const .nil)))) (rwalk_ok Vc.self hw (by omega) (by omega)) (.inl rfl) fun x10 o10 h10 => ?_
  obtain ⟨rfl, p10, d10, rfl, hp10⟩ := h10
  refine JL.q rfl rfl rfl (QW.move (.tmp rfl)) ?_
  refine JL.q rfl rfl rfl (QW.extract (.tmp rfl) rfl) ?_
  refine JL.q rfl rfl rfl (QW.extract (.tmp rfl) rfl) ?_
  refine JL.q rfl rfl rfl (QW.extract (.tmp rfl) rfl) ?_
  refine JL.q rfl rfl rfl (QW.assign (.tmp rfl)) ?_
  refine JL.q rfl rfl rfl (QW.assign (.tmp rfl)) ?_
  refine JL.q rfl rfl rfl (QW.assign (.tmp rfl)) ?_
  refine JL.nil ?_
  refine thenQ.n ?_
  refine J.seq ?_
  refine J.seq ?_
  refine J.region_lit ?_
  refine JL.q rfl rfl rfl (QW.move (.tmp rfl)) ?_
  refine JL.q rfl rfl rfl (QW.neq (.tmp rfl) .const) ?_
  refine JL.nil ?_
  refine thenQ.n ?_
  refine J.cond (.tmp rfl) (fun c1 => ?_) (fun c1 => ?_)
  · skip
    simp at c1
    refine J.seq ?_
    refine J.region_lit ?_
    refine JL.q rfl rfl rfl (QW.move (.tmp rfl)) ?_
    refine JL.q rfl rfl rfl (QW.assign .const) ?_
    refine JL.q rfl rfl rfl (QW.assign .const) ?_
    refine JL.q rfl rfl rfl (QW.assign (.tmp rfl)) ?_
    refine JL.nil ?_
    refine thenQ.n ?_
    refine J.ret ?_
    refine thenQ.r ?_
    exact ⟨_, selP [.k] _, _, RetEv.three rfl (REv.tmp rfl (.refl _)) (REv.tmp rfl (.refl _)) (REv.tmp rfl (.refl _)), rfl, sel_perm [.k] _, ⟨congrArg Res.ret (sizeAV_no c1 rfl).symm, rfl⟩⟩
  · skip
    simp at c1
    refine J.skip ?_
    refine thenQ.n ?_
    refine J.seq ?_
    refine J.region_lit ?_
    refine JL.q rfl rfl rfl (QW.move (.tmp rfl)) ?_
    refine JL.q rfl rfl rfl (QW.move (.tmp rfl)) ?_
    refine JL.q rfl rfl rfl (QW.assign (.tmp rfl)) ?_
    refine JL.q rfl rfl rfl (QW.assign (.tmp rfl)) ?_
    refine JL.q rfl rfl rfl (QW.assign .const) ?_
    refine JL.nil ?_
    refine thenQ.n ?_
    refine J.ret ?_
    exact ⟨_, selP [.k] _, _, RetEv.three rfl (REv.tmp rfl (.refl _)) (REv.tmp rfl (.refl _)) (REv.tmp rfl (.refl _)), rfl, sel_perm [.k] _, ⟨congrArg Res.ret (sizeAV_ok c1 (hp10 c1).1 (by have := (hp10 c1).2; omega)).symm, rfl⟩⟩

theorem rcheck_ok {fr : Bool} {v : V} {ys : List AV} (hv : Vc fr v ys) (hw : v.wf) : Fn Try.prog 25 [.agg ys] (.c (.int .i64 v.err)) := by
  subst hv
  refine AC.of_J Try.func25 rfl Try.ntmps25 rfl fun w0 A0 => ?_
  refine J.seq ?_
  refine J.region_lit ?_
  refine JL.box_agg (.tmp rfl) rfl fun b1 => ?_
  refine JL.q rfl rfl rfl (QW.assign .const) ?_
  refine JL.nil ?_
  refine thenQ.n ?_
  refine J.seq ?_
  refine J.region_lit ?_
  refine JL.q rfl rfl rfl (by first | exact QW.load_box 0 ty26 (.tmp rfl) rfl rfl rfl | exact QW.load_box 0 ty26 (.tmp rfl) rfl (take_at (V.cs_length _ _) rfl) (V.cs_length _ _)) ?_
  refine JL.callRF [] gofn74 rfl Lent.nil (fun _ => (.cons (.tmp rfl) (.cons .const (.cons .const .nil)))) (rwalk_ok Vc.self hw (by omega) (by omega)) (.inl rfl) fun x8 o8 h8 => ?_
  obtain ⟨rfl, p8, d8, rfl, hp8⟩ := h8
  refine JL.q rfl rfl rfl (QW.move (.tmp rfl)) ?_
  refine JL.q rfl rfl rfl (QW.extract (.tmp rfl) rfl) ?_
  refine JL.q rfl rfl rfl (QW.extract (.tmp rfl) rfl) ?_
  refine JL.q rfl rfl rfl (QW.extract (.tmp rfl) rfl) ?_
  refine JL.q rfl rfl rfl (QW.assign (.tmp rfl)) ?_
  refine JL.q rfl rfl rfl (QW.assign (.tmp rfl)) ?_
  refine JL.q rfl rfl rfl (QW.assign (.tmp rfl)) ?_
  refine JL.nil ?_
  refine thenQ.n ?_
  refine J.seq ?_
  refine J.region_lit ?_
  refine JL.q rfl rfl rfl (QW.move (.tmp rfl)) ?_
  refine JL.q rfl rfl rfl (QW.assign (.tmp rfl)) ?_
  refine JL.nil ?_
  refine thenQ.n ?_
  refine J.ret ?_
  exact ⟨_, selP [.k] _, _, RetEv.one rfl (REv.tmp rfl (.refl _)), rfl, sel_perm [.k] _, ⟨rfl, rfl⟩⟩

end Go.Proofs.Ytkiankpmkglhcaa.J
