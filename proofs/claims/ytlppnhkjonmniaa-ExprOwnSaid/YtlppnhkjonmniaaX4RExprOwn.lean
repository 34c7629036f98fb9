/- Texts of this proof, laid together. -/
import Derived.Test.YtlppnhkjonmniaaX3RExprOwn
/- Walks: expressions, the small functions. -/
namespace Go.Proofs.Ytlppnhkjonmniaa.J
open Go Go.RowKit
set_option linter.unusedVariables false
set_option linter.unusedSimpArgs false
set_option maxRecDepth 10000
set_option maxHeartbeats 4000000
theorem within_ok (n l h : Int) : Fn Try.prog 40 [.c (.int .i64 n), .c (.int .i64 l), .c (.int .i64 h)] (.c (.bool (decide (l ≤ n) && decide (n ≤ h)))) := by
  refine AC.of_J Try.func40 rfl Try.ntmps40 rfl fun w0 A0 => ?_
  refine J.seq ?_
  refine J.region_lit ?_
  refine JL.q rfl rfl rfl (QW.assign .const) ?_
  refine JL.nil ?_
  refine thenQ.n ?_
  refine J.seq ?_
  refine J.region_lit ?_
  refine JL.q rfl rfl rfl (QW.move (.tmp rfl)) ?_
  refine JL.q rfl rfl rfl (QW.move (.tmp rfl)) ?_
  refine JL.q rfl rfl rfl (QW.geq (.tmp rfl) (.tmp rfl)) ?_
  refine JL.q rfl rfl rfl (QW.move (.tmp rfl)) ?_
  refine JL.g rfl rfl rfl rfl rfl (fun hg => (QW.move (.tmp rfl))) ?_
  refine JL.g rfl rfl rfl rfl rfl (fun hg => (QW.move (.tmp rfl))) ?_
  refine JL.g rfl rfl rfl rfl rfl (fun hg => (QW.leq (.when rfl hg) (.when rfl hg))) ?_
  refine JL.q rfl rfl rfl (QW.pick_and (.tmp rfl) (.tmp rfl)) ?_
  refine JL.q rfl rfl rfl (QW.assign (.tmp rfl)) ?_
  refine JL.nil ?_
  refine thenQ.n ?_
  refine J.ret ?_
  exact ⟨_, [], _, RetEv.one rfl (REv.tmp rfl (.refl _)), rfl, List.Perm.refl _, rfl, rfl⟩
theorem PanR.of {e e' : Int} {Rx : AV → List Own → Prop} (h : e' = e) (hn : ¬ e = 0) : PanR (e' = 0) (.iface 27 (.int .i64 e')) Rx (.pan (.iface 27 (.int .i64 e))) [] := by
  subst h; exact .pan hn
def errV (e : Int) : Value := .iface 27 (.int .i64 e)
theorem need_ok (ok : Bool) (e : Int) : AC Try.prog 32 [] [.c (.bool ok), .c (.int .i64 e)] (PanR (ok = true) (errV e) fun x o => x = .tup [] ∧ o = []) := by
  refine AC.of_J Try.func32 rfl Try.ntmps32 rfl fun w0 A0 => ?_
  refine J.seq ?_
  refine J.region_lit ?_
  refine JL.q rfl rfl rfl (QW.move (.tmp rfl)) ?_
  refine JL.q rfl rfl rfl (QW.not (.tmp rfl)) ?_
  refine JL.nil ?_
  refine thenQ.n ?_
  refine J.cond (.tmp rfl) (fun c1 => ?_) (fun c1 => ?_)
  · skip
    have hok : ok = false := by simpa using c1
    refine J.region_lit ?_
    refine JL.q rfl rfl rfl (QW.move (.tmp rfl)) ?_
    refine JL.q rfl rfl rfl (QW.mkIface ⟨_, Try.underlying27, by intro ms h; cases h⟩ (.tmp rfl)) ?_
    refine JL.panic (.tmp rfl) ?_
    exact ⟨_, selP [] _, _, rfl, rfl, sel_perm [] _, PanR.pan (by simp [hok])⟩
  · skip
    have hok : ok = true := by simpa using c1
    refine J.skip ?_
    exact ⟨_, selP [] _, _, RetEv.none rfl , rfl, sel_perm [] _, PanR.ret hok ⟨rfl, rfl⟩⟩
def shLo (o : Int) : Int := if argsN o = -1 then 0 else if argsN o = -2 then 2 else argsN o
def shHi (o : Int) : Int := if argsN o = -1 then 8 else if argsN o = -2 then 2 else argsN o
theorem shape_eq {o : Int} {a b c d : Int} {k : Bool} (h : a = shLo o ∧ b = shHi o ∧ c = textLo o ∧ d = textHi o ∧ k = decide (argsN o ≠ -2)) :
    Res.ret (.tup [.agg [.c (.int .i64 a), .c (.int .i64 b), .c (.int .i64 c), .c (.int .i64 d)], .c (.bool k)]) = Res.ret (.tup [.agg [.c (.int .i64 (shLo o)), .c (.int .i64 (shHi o)), .c (.int .i64 (textLo o)), .c (.int .i64 (textHi o))], .c (.bool (decide (argsN o ≠ -2)))]) := by
  obtain ⟨rfl, rfl, rfl, rfl, rfl⟩ := h; rfl
theorem shapeOf_ok (o : Int) : Fn Try.prog 37 [.c (.int .i64 o)] (.tup [.agg [.c (.int .i64 (shLo o)), .c (.int .i64 (shHi o)), .c (.int .i64 (textLo o)), .c (.int .i64 (textHi o))], .c (.bool (decide (argsN o ≠ -2)))]) := by
  refine AC.of_J Try.func37 rfl Try.ntmps37 rfl fun w0 A0 => ?_
  refine J.seq ?_
  refine J.region_lit ?_
  refine JL.alloc z71 rfl rfl fun b2 => ?_
  refine JL.q rfl rfl rfl (QW.assign .const) ?_
  refine JL.nil ?_
  refine thenQ.n ?_
  refine J.seq ?_
  refine J.seq ?_
  refine J.region_lit ?_
  refine JL.q rfl rfl rfl (QW.move (.tmp rfl)) ?_
  refine JL.nil ?_
  refine thenQ.n ?_
  refine J.block ?_
  refine J.seq ?_
  refine J.seq ?_
  refine J.region_lit ?_
  refine JL.q rfl rfl rfl (QW.eql (.tmp rfl) .const) ?_
  refine JL.q rfl rfl rfl (QW.assign (.tmp rfl)) ?_
  refine JL.nil ?_
  refine thenQ.n ?_
  refine J.cond (.tmp rfl) (fun c1 => ?_) (fun c1 => ?_)
  · try (exfalso; simp at *; omega; done)
    all_goals
      refine J.skip ?_
      refine thenQ.n ?_
      refine J.cond (.tmp rfl) (fun c2 => ?_) (fun c2 => ?_)
      · try (exfalso; simp at *; omega; done)
        all_goals
          refine J.seq ?_
          refine J.region_lit ?_
          refine JL.q rfl rfl rfl (QW.build (idx := []) pl71 z71 rfl .nil rfl rfl rfl rfl) ?_
          first | refine JL.store_boxF 0 ty71 (.tmp rfl) rfl (.tmp rfl) (by first | rfl | assumption) (rfl) (rfl) rfl ?_ | refine JL.store_box 0 ty71 (.tmp rfl) rfl (.tmp rfl) (by first | rfl | assumption) rfl rfl rfl rfl ?_
          refine JL.q rfl rfl rfl (QW.assign .const) ?_
          refine JL.nil ?_
          refine thenQ.n ?_
          refine J.ret ?_
          refine blkQ.r ?_
          refine thenQ.r ?_
          exact ⟨_, [], _, RetEv.two rfl (REv.cell 0 ty71 rfl rfl rfl rfl (.refl _)) (REv.tmp rfl (.refl _)), rfl, List.Perm.refl _, shape_eq (by simp at *; unfold shLo shHi textLo textHi argsN; (repeat' split) <;> (try simp) <;> omega), rfl⟩
      · try (exfalso; simp at *; omega; done)
        all_goals
          refine J.seq ?_
          refine J.region_lit ?_
          refine JL.q rfl rfl rfl (QW.eql (.tmp rfl) .const) ?_
          refine JL.q rfl rfl rfl (QW.assign (.tmp rfl)) ?_
          refine JL.nil ?_
          refine thenQ.n ?_
          refine J.cond (.tmp rfl) (fun c3 => ?_) (fun c3 => ?_)
          · try (exfalso; simp at *; omega; done)
            all_goals
              refine J.seq ?_
              refine J.region_lit ?_
              refine JL.q rfl rfl rfl (QW.build (idx := [3]) pl71 z71 rfl (.cons .const .nil) rfl rfl rfl rfl) ?_
              first | refine JL.store_boxF 0 ty71 (.tmp rfl) rfl (.tmp rfl) (by first | rfl | assumption) (rfl) (rfl) rfl ?_ | refine JL.store_box 0 ty71 (.tmp rfl) rfl (.tmp rfl) (by first | rfl | assumption) rfl rfl rfl rfl ?_
              refine JL.q rfl rfl rfl (QW.assign .const) ?_
              refine JL.nil ?_
              refine thenQ.n ?_
              refine J.ret ?_
              refine blkQ.r ?_
              refine thenQ.r ?_
              exact ⟨_, [], _, RetEv.two rfl (REv.cell 0 ty71 rfl rfl rfl rfl (.refl _)) (REv.tmp rfl (.refl _)), rfl, List.Perm.refl _, shape_eq (by simp at *; unfold shLo shHi textLo textHi argsN; (repeat' split) <;> (try simp) <;> omega), rfl⟩
          · try (exfalso; simp at *; omega; done)
            all_goals
              refine J.seq ?_
              refine J.region_lit ?_
              refine JL.q rfl rfl rfl (QW.eql (.tmp rfl) .const) ?_
              refine JL.q rfl rfl rfl (QW.assign (.tmp rfl)) ?_
              refine JL.nil ?_
              refine thenQ.n ?_
              refine J.cond (.tmp rfl) (fun c4 => ?_) (fun c4 => ?_)
              · try (exfalso; simp at *; omega; done)
                all_goals
                  refine J.seq ?_
                  refine J.region_lit ?_
                  refine JL.q rfl rfl rfl (QW.build (idx := [0, 1, 2, 3]) pl71 z71 rfl (.cons .const (.cons .const (.cons .const (.cons .const .nil)))) rfl rfl rfl rfl) ?_
                  first | refine JL.store_boxF 0 ty71 (.tmp rfl) rfl (.tmp rfl) (by first | rfl | assumption) (rfl) (rfl) rfl ?_ | refine JL.store_box 0 ty71 (.tmp rfl) rfl (.tmp rfl) (by first | rfl | assumption) rfl rfl rfl rfl ?_
                  refine JL.q rfl rfl rfl (QW.assign .const) ?_
                  refine JL.nil ?_
                  refine thenQ.n ?_
                  refine J.ret ?_
                  refine blkQ.r ?_
                  refine thenQ.r ?_
                  exact ⟨_, [], _, RetEv.two rfl (REv.cell 0 ty71 rfl rfl rfl rfl (.refl _)) (REv.tmp rfl (.refl _)), rfl, List.Perm.refl _, shape_eq (by simp at *; unfold shLo shHi textLo textHi argsN; (repeat' split) <;> (try simp) <;> omega), rfl⟩
              · try (exfalso; simp at *; omega; done)
                all_goals
                  refine J.seq ?_
                  refine J.region_lit ?_
                  refine JL.q rfl rfl rfl (QW.eql (.tmp rfl) .const) ?_
                  refine JL.q rfl rfl rfl (QW.assign (.tmp rfl)) ?_
                  refine JL.nil ?_
                  refine thenQ.n ?_
                  refine J.cond (.tmp rfl) (fun c5 => ?_) (fun c5 => ?_)
                  · try (exfalso; simp at *; omega; done)
                    all_goals
                      refine J.seq ?_
                      refine J.region_lit ?_
                      refine JL.q rfl rfl rfl (QW.build (idx := [0, 1, 2, 3]) pl71 z71 rfl (.cons .const (.cons .const (.cons .const (.cons .const .nil)))) rfl rfl rfl rfl) ?_
                      first | refine JL.store_boxF 0 ty71 (.tmp rfl) rfl (.tmp rfl) (by first | rfl | assumption) (rfl) (rfl) rfl ?_ | refine JL.store_box 0 ty71 (.tmp rfl) rfl (.tmp rfl) (by first | rfl | assumption) rfl rfl rfl rfl ?_
                      refine JL.q rfl rfl rfl (QW.assign .const) ?_
                      refine JL.nil ?_
                      refine thenQ.n ?_
                      refine J.ret ?_
                      refine blkQ.r ?_
                      refine thenQ.r ?_
                      exact ⟨_, [], _, RetEv.two rfl (REv.cell 0 ty71 rfl rfl rfl rfl (.refl _)) (REv.tmp rfl (.refl _)), rfl, List.Perm.refl _, shape_eq (by simp at *; unfold shLo shHi textLo textHi argsN; (repeat' split) <;> (try simp) <;> omega), rfl⟩
                  · try (exfalso; simp at *; omega; done)
                    all_goals
                      refine J.seq ?_
                      refine J.seq ?_
                      refine J.region_lit ?_
                      refine JL.q rfl rfl rfl (QW.eql (.tmp rfl) .const) ?_
                      refine JL.q rfl rfl rfl (QW.assign (.tmp rfl)) ?_
                      refine JL.nil ?_
                      refine thenQ.n ?_
                      refine J.cond (.tmp rfl) (fun c6 => ?_) (fun c6 => ?_)
                      · try (exfalso; simp at *; omega; done)
                        all_goals
                          refine J.skip ?_
                          refine thenQ.n ?_
                          refine J.cond (.tmp rfl) (fun c7 => ?_) (fun c7 => ?_)
                          · try (exfalso; simp at *; omega; done)
                            all_goals
                              refine J.seq ?_
                              refine J.region_lit ?_
                              refine JL.q rfl rfl rfl (QW.build (idx := [0, 1]) pl71 z71 rfl (.cons .const (.cons .const .nil)) rfl rfl rfl rfl) ?_
                              first | refine JL.store_boxF 0 ty71 (.tmp rfl) rfl (.tmp rfl) (by first | rfl | assumption) (rfl) (rfl) rfl ?_ | refine JL.store_box 0 ty71 (.tmp rfl) rfl (.tmp rfl) (by first | rfl | assumption) rfl rfl rfl rfl ?_
                              refine JL.q rfl rfl rfl (QW.assign .const) ?_
                              refine JL.nil ?_
                              refine thenQ.n ?_
                              refine J.ret ?_
                              refine blkQ.r ?_
                              refine thenQ.r ?_
                              exact ⟨_, [], _, RetEv.two rfl (REv.cell 0 ty71 rfl rfl rfl rfl (.refl _)) (REv.tmp rfl (.refl _)), rfl, List.Perm.refl _, shape_eq (by simp at *; unfold shLo shHi textLo textHi argsN; (repeat' split) <;> (try simp) <;> omega), rfl⟩
                          · try (exfalso; simp at *; omega; done)
                            all_goals
                              refine J.seq ?_
                              refine J.region_lit ?_
                              refine JL.q rfl rfl rfl (QW.eql (.tmp rfl) .const) ?_
                              refine JL.q rfl rfl rfl (QW.assign (.tmp rfl)) ?_
                              refine JL.nil ?_
                              refine thenQ.n ?_
                              refine J.cond (.tmp rfl) (fun c8 => ?_) (fun c8 => ?_)
                              · try (exfalso; simp at *; omega; done)
                                all_goals
                                  refine J.seq ?_
                                  refine J.region_lit ?_
                                  refine JL.q rfl rfl rfl (QW.build (idx := [0, 1]) pl71 z71 rfl (.cons .const (.cons .const .nil)) rfl rfl rfl rfl) ?_
                                  first | refine JL.store_boxF 0 ty71 (.tmp rfl) rfl (.tmp rfl) (by first | rfl | assumption) (rfl) (rfl) rfl ?_ | refine JL.store_box 0 ty71 (.tmp rfl) rfl (.tmp rfl) (by first | rfl | assumption) rfl rfl rfl rfl ?_
                                  refine JL.q rfl rfl rfl (QW.assign .const) ?_
                                  refine JL.nil ?_
                                  refine thenQ.n ?_
                                  refine J.ret ?_
                                  refine blkQ.r ?_
                                  refine thenQ.r ?_
                                  exact ⟨_, [], _, RetEv.two rfl (REv.cell 0 ty71 rfl rfl rfl rfl (.refl _)) (REv.tmp rfl (.refl _)), rfl, List.Perm.refl _, shape_eq (by simp at *; unfold shLo shHi textLo textHi argsN; (repeat' split) <;> (try simp) <;> omega), rfl⟩
                              · try (exfalso; simp at *; omega; done)
                                all_goals
                                  refine J.seq ?_
                                  refine J.region_lit ?_
                                  refine JL.q rfl rfl rfl (QW.eql (.tmp rfl) .const) ?_
                                  refine JL.q rfl rfl rfl (QW.assign (.tmp rfl)) ?_
                                  refine JL.nil ?_
                                  refine thenQ.n ?_
                                  refine J.cond (.tmp rfl) (fun c9 => ?_) (fun c9 => ?_)
                                  · try (exfalso; simp at *; omega; done)
                                    all_goals
                                      refine J.seq ?_
                                      refine J.region_lit ?_
                                      refine JL.q rfl rfl rfl (QW.build (idx := [1]) pl71 z71 rfl (.cons .const .nil) rfl rfl rfl rfl) ?_
                                      first | refine JL.store_boxF 0 ty71 (.tmp rfl) rfl (.tmp rfl) (by first | rfl | assumption) (rfl) (rfl) rfl ?_ | refine JL.store_box 0 ty71 (.tmp rfl) rfl (.tmp rfl) (by first | rfl | assumption) rfl rfl rfl rfl ?_
                                      refine JL.q rfl rfl rfl (QW.assign .const) ?_
                                      refine JL.nil ?_
                                      refine thenQ.n ?_
                                      refine J.ret ?_
                                      refine blkQ.r ?_
                                      refine thenQ.r ?_
                                      exact ⟨_, [], _, RetEv.two rfl (REv.cell 0 ty71 rfl rfl rfl rfl (.refl _)) (REv.tmp rfl (.refl _)), rfl, List.Perm.refl _, shape_eq (by simp at *; unfold shLo shHi textLo textHi argsN; (repeat' split) <;> (try simp) <;> omega), rfl⟩
                                  · try (exfalso; simp at *; omega; done)
                                    all_goals
                                      refine J.skip ?_
                                      refine blkQ.n ?_
                                      refine thenQ.n ?_
                                      refine J.seq ?_
                                      refine J.region_lit ?_
                                      refine JL.q rfl rfl rfl (QW.build (idx := [0, 1]) pl71 z71 rfl (.cons .const (.cons .const .nil)) rfl rfl rfl rfl) ?_
                                      refine JL.q rfl rfl rfl (QW.move (.tmp rfl)) ?_
                                      refine JL.q rfl rfl rfl (QW.gtr (.tmp rfl) .const) ?_
                                      refine JL.q rfl rfl rfl (QW.move (.tmp rfl)) ?_
                                      refine JL.g rfl rfl rfl rfl rfl (fun hg => (QW.move (.tmp rfl))) ?_
                                      refine JL.g rfl rfl rfl rfl rfl (fun hg => (QW.leq (.when rfl hg) .const)) ?_
                                      refine JL.q rfl rfl rfl (QW.pick_and (.tmp rfl) (.tmp rfl)) ?_
                                      first | refine JL.store_boxF 0 ty71 (.tmp rfl) rfl (.tmp rfl) (by first | rfl | assumption) (rfl) (rfl) rfl ?_ | refine JL.store_box 0 ty71 (.tmp rfl) rfl (.tmp rfl) (by first | rfl | assumption) rfl rfl rfl rfl ?_
                                      refine JL.q rfl rfl rfl (QW.assign (.tmp rfl)) ?_
                                      refine JL.nil ?_
                                      refine thenQ.n ?_
                                      refine J.ret ?_
                                      exact ⟨_, [], _, RetEv.two rfl (REv.cell 0 ty71 rfl rfl rfl rfl (.refl _)) (REv.tmp rfl (.refl _)), rfl, List.Perm.refl _, shape_eq (by simp at *; unfold shLo shHi textLo textHi argsN; (repeat' split) <;> (try simp) <;> omega), rfl⟩
                      · try (exfalso; simp at *; omega; done)
                        all_goals
                          refine J.seq ?_
                          refine J.region_lit ?_
                          refine JL.q rfl rfl rfl (QW.eql (.tmp rfl) .const) ?_
                          refine JL.q rfl rfl rfl (QW.assign (.tmp rfl)) ?_
                          refine JL.nil ?_
                          refine thenQ.n ?_
                          refine J.cond (.tmp rfl) (fun c7 => ?_) (fun c7 => ?_)
                          · try (exfalso; simp at *; omega; done)
                            all_goals
                              refine J.skip ?_
                              refine thenQ.n ?_
                              refine J.cond (.tmp rfl) (fun c8 => ?_) (fun c8 => ?_)
                              · try (exfalso; simp at *; omega; done)
                                all_goals
                                  refine J.seq ?_
                                  refine J.region_lit ?_
                                  refine JL.q rfl rfl rfl (QW.build (idx := [0, 1]) pl71 z71 rfl (.cons .const (.cons .const .nil)) rfl rfl rfl rfl) ?_
                                  first | refine JL.store_boxF 0 ty71 (.tmp rfl) rfl (.tmp rfl) (by first | rfl | assumption) (rfl) (rfl) rfl ?_ | refine JL.store_box 0 ty71 (.tmp rfl) rfl (.tmp rfl) (by first | rfl | assumption) rfl rfl rfl rfl ?_
                                  refine JL.q rfl rfl rfl (QW.assign .const) ?_
                                  refine JL.nil ?_
                                  refine thenQ.n ?_
                                  refine J.ret ?_
                                  refine blkQ.r ?_
                                  refine thenQ.r ?_
                                  exact ⟨_, [], _, RetEv.two rfl (REv.cell 0 ty71 rfl rfl rfl rfl (.refl _)) (REv.tmp rfl (.refl _)), rfl, List.Perm.refl _, shape_eq (by simp at *; unfold shLo shHi textLo textHi argsN; (repeat' split) <;> (try simp) <;> omega), rfl⟩
                              · try (exfalso; simp at *; omega; done)
                                all_goals
                                  refine J.seq ?_
                                  refine J.region_lit ?_
                                  refine JL.q rfl rfl rfl (QW.eql (.tmp rfl) .const) ?_
                                  refine JL.q rfl rfl rfl (QW.assign (.tmp rfl)) ?_
                                  refine JL.nil ?_
                                  refine thenQ.n ?_
                                  refine J.cond (.tmp rfl) (fun c9 => ?_) (fun c9 => ?_)
                                  · try (exfalso; simp at *; omega; done)
                                    all_goals
                                      refine J.seq ?_
                                      refine J.region_lit ?_
                                      refine JL.q rfl rfl rfl (QW.build (idx := [0, 1]) pl71 z71 rfl (.cons .const (.cons .const .nil)) rfl rfl rfl rfl) ?_
                                      first | refine JL.store_boxF 0 ty71 (.tmp rfl) rfl (.tmp rfl) (by first | rfl | assumption) (rfl) (rfl) rfl ?_ | refine JL.store_box 0 ty71 (.tmp rfl) rfl (.tmp rfl) (by first | rfl | assumption) rfl rfl rfl rfl ?_
                                      refine JL.q rfl rfl rfl (QW.assign .const) ?_
                                      refine JL.nil ?_
                                      refine thenQ.n ?_
                                      refine J.ret ?_
                                      refine blkQ.r ?_
                                      refine thenQ.r ?_
                                      exact ⟨_, [], _, RetEv.two rfl (REv.cell 0 ty71 rfl rfl rfl rfl (.refl _)) (REv.tmp rfl (.refl _)), rfl, List.Perm.refl _, shape_eq (by simp at *; unfold shLo shHi textLo textHi argsN; (repeat' split) <;> (try simp) <;> omega), rfl⟩
                                  · try (exfalso; simp at *; omega; done)
                                    all_goals
                                      refine J.seq ?_
                                      refine J.region_lit ?_
                                      refine JL.q rfl rfl rfl (QW.eql (.tmp rfl) .const) ?_
                                      refine JL.q rfl rfl rfl (QW.assign (.tmp rfl)) ?_
                                      refine JL.nil ?_
                                      refine thenQ.n ?_
                                      refine J.cond (.tmp rfl) (fun c10 => ?_) (fun c10 => ?_)
                                      · try (exfalso; simp at *; omega; done)
                                        all_goals
                                          refine J.seq ?_
                                          refine J.region_lit ?_
                                          refine JL.q rfl rfl rfl (QW.build (idx := [1]) pl71 z71 rfl (.cons .const .nil) rfl rfl rfl rfl) ?_
                                          first | refine JL.store_boxF 0 ty71 (.tmp rfl) rfl (.tmp rfl) (by first | rfl | assumption) (rfl) (rfl) rfl ?_ | refine JL.store_box 0 ty71 (.tmp rfl) rfl (.tmp rfl) (by first | rfl | assumption) rfl rfl rfl rfl ?_
                                          refine JL.q rfl rfl rfl (QW.assign .const) ?_
                                          refine JL.nil ?_
                                          refine thenQ.n ?_
                                          refine J.ret ?_
                                          refine blkQ.r ?_
                                          refine thenQ.r ?_
                                          exact ⟨_, [], _, RetEv.two rfl (REv.cell 0 ty71 rfl rfl rfl rfl (.refl _)) (REv.tmp rfl (.refl _)), rfl, List.Perm.refl _, shape_eq (by simp at *; unfold shLo shHi textLo textHi argsN; (repeat' split) <;> (try simp) <;> omega), rfl⟩
                                      · try (exfalso; simp at *; omega; done)
                                        all_goals
                                          refine J.skip ?_
                                          refine blkQ.n ?_
                                          refine thenQ.n ?_
                                          refine J.seq ?_
                                          refine J.region_lit ?_
                                          refine JL.q rfl rfl rfl (QW.build (idx := [0, 1]) pl71 z71 rfl (.cons .const (.cons .const .nil)) rfl rfl rfl rfl) ?_
                                          refine JL.q rfl rfl rfl (QW.move (.tmp rfl)) ?_
                                          refine JL.q rfl rfl rfl (QW.gtr (.tmp rfl) .const) ?_
                                          refine JL.q rfl rfl rfl (QW.move (.tmp rfl)) ?_
                                          refine JL.g rfl rfl rfl rfl rfl (fun hg => (QW.move (.tmp rfl))) ?_
                                          refine JL.g rfl rfl rfl rfl rfl (fun hg => (QW.leq (.when rfl hg) .const)) ?_
                                          refine JL.q rfl rfl rfl (QW.pick_and (.tmp rfl) (.tmp rfl)) ?_
                                          first | refine JL.store_boxF 0 ty71 (.tmp rfl) rfl (.tmp rfl) (by first | rfl | assumption) (rfl) (rfl) rfl ?_ | refine JL.store_box 0 ty71 (.tmp rfl) rfl (.tmp rfl) (by first | rfl | assumption) rfl rfl rfl rfl ?_
                                          refine JL.q rfl rfl rfl (QW.assign (.tmp rfl)) ?_
                                          refine JL.nil ?_
                                          refine thenQ.n ?_
                                          refine J.ret ?_
                                          exact ⟨_, [], _, RetEv.two rfl (REv.cell 0 ty71 rfl rfl rfl rfl (.refl _)) (REv.tmp rfl (.refl _)), rfl, List.Perm.refl _, shape_eq (by simp at *; unfold shLo shHi textLo textHi argsN; (repeat' split) <;> (try simp) <;> omega), rfl⟩
                          · try (exfalso; simp at *; omega; done)
                            all_goals
                              refine J.seq ?_
                              refine J.region_lit ?_
                              refine JL.q rfl rfl rfl (QW.eql (.tmp rfl) .const) ?_
                              refine JL.q rfl rfl rfl (QW.assign (.tmp rfl)) ?_
                              refine JL.nil ?_
                              refine thenQ.n ?_
                              refine J.cond (.tmp rfl) (fun c8 => ?_) (fun c8 => ?_)
                              · try (exfalso; simp at *; omega; done)
                                all_goals
                                  refine J.skip ?_
                                  refine thenQ.n ?_
                                  refine J.cond (.tmp rfl) (fun c9 => ?_) (fun c9 => ?_)
                                  · try (exfalso; simp at *; omega; done)
                                    all_goals
                                      refine J.seq ?_
                                      refine J.region_lit ?_
                                      refine JL.q rfl rfl rfl (QW.build (idx := [0, 1]) pl71 z71 rfl (.cons .const (.cons .const .nil)) rfl rfl rfl rfl) ?_
                                      first | refine JL.store_boxF 0 ty71 (.tmp rfl) rfl (.tmp rfl) (by first | rfl | assumption) (rfl) (rfl) rfl ?_ | refine JL.store_box 0 ty71 (.tmp rfl) rfl (.tmp rfl) (by first | rfl | assumption) rfl rfl rfl rfl ?_
                                      refine JL.q rfl rfl rfl (QW.assign .const) ?_
                                      refine JL.nil ?_
                                      refine thenQ.n ?_
                                      refine J.ret ?_
                                      refine blkQ.r ?_
                                      refine thenQ.r ?_
                                      exact ⟨_, [], _, RetEv.two rfl (REv.cell 0 ty71 rfl rfl rfl rfl (.refl _)) (REv.tmp rfl (.refl _)), rfl, List.Perm.refl _, shape_eq (by simp at *; unfold shLo shHi textLo textHi argsN; (repeat' split) <;> (try simp) <;> omega), rfl⟩
                                  · try (exfalso; simp at *; omega; done)
                                    all_goals
                                      refine J.seq ?_
                                      refine J.region_lit ?_
                                      refine JL.q rfl rfl rfl (QW.eql (.tmp rfl) .const) ?_
                                      refine JL.q rfl rfl rfl (QW.assign (.tmp rfl)) ?_
                                      refine JL.nil ?_
                                      refine thenQ.n ?_
                                      refine J.cond (.tmp rfl) (fun c10 => ?_) (fun c10 => ?_)
                                      · try (exfalso; simp at *; omega; done)
                                        all_goals
                                          refine J.seq ?_
                                          refine J.region_lit ?_
                                          refine JL.q rfl rfl rfl (QW.build (idx := [0, 1]) pl71 z71 rfl (.cons .const (.cons .const .nil)) rfl rfl rfl rfl) ?_
                                          first | refine JL.store_boxF 0 ty71 (.tmp rfl) rfl (.tmp rfl) (by first | rfl | assumption) (rfl) (rfl) rfl ?_ | refine JL.store_box 0 ty71 (.tmp rfl) rfl (.tmp rfl) (by first | rfl | assumption) rfl rfl rfl rfl ?_
                                          refine JL.q rfl rfl rfl (QW.assign .const) ?_
                                          refine JL.nil ?_
                                          refine thenQ.n ?_
                                          refine J.ret ?_
                                          refine blkQ.r ?_
                                          refine thenQ.r ?_
                                          exact ⟨_, [], _, RetEv.two rfl (REv.cell 0 ty71 rfl rfl rfl rfl (.refl _)) (REv.tmp rfl (.refl _)), rfl, List.Perm.refl _, shape_eq (by simp at *; unfold shLo shHi textLo textHi argsN; (repeat' split) <;> (try simp) <;> omega), rfl⟩
                                      · try (exfalso; simp at *; omega; done)
                                        all_goals
                                          refine J.seq ?_
                                          refine J.region_lit ?_
                                          refine JL.q rfl rfl rfl (QW.eql (.tmp rfl) .const) ?_
                                          refine JL.q rfl rfl rfl (QW.assign (.tmp rfl)) ?_
                                          refine JL.nil ?_
                                          refine thenQ.n ?_
                                          refine J.cond (.tmp rfl) (fun c11 => ?_) (fun c11 => ?_)
                                          · try (exfalso; simp at *; omega; done)
                                            all_goals
                                              refine J.seq ?_
                                              refine J.region_lit ?_
                                              refine JL.q rfl rfl rfl (QW.build (idx := [1]) pl71 z71 rfl (.cons .const .nil) rfl rfl rfl rfl) ?_
                                              first | refine JL.store_boxF 0 ty71 (.tmp rfl) rfl (.tmp rfl) (by first | rfl | assumption) (rfl) (rfl) rfl ?_ | refine JL.store_box 0 ty71 (.tmp rfl) rfl (.tmp rfl) (by first | rfl | assumption) rfl rfl rfl rfl ?_
                                              refine JL.q rfl rfl rfl (QW.assign .const) ?_
                                              refine JL.nil ?_
                                              refine thenQ.n ?_
                                              refine J.ret ?_
                                              refine blkQ.r ?_
                                              refine thenQ.r ?_
                                              exact ⟨_, [], _, RetEv.two rfl (REv.cell 0 ty71 rfl rfl rfl rfl (.refl _)) (REv.tmp rfl (.refl _)), rfl, List.Perm.refl _, shape_eq (by simp at *; unfold shLo shHi textLo textHi argsN; (repeat' split) <;> (try simp) <;> omega), rfl⟩
                                          · try (exfalso; simp at *; omega; done)
                                            all_goals
                                              refine J.skip ?_
                                              refine blkQ.n ?_
                                              refine thenQ.n ?_
                                              refine J.seq ?_
                                              refine J.region_lit ?_
                                              refine JL.q rfl rfl rfl (QW.build (idx := [0, 1]) pl71 z71 rfl (.cons .const (.cons .const .nil)) rfl rfl rfl rfl) ?_
                                              refine JL.q rfl rfl rfl (QW.move (.tmp rfl)) ?_
                                              refine JL.q rfl rfl rfl (QW.gtr (.tmp rfl) .const) ?_
                                              refine JL.q rfl rfl rfl (QW.move (.tmp rfl)) ?_
                                              refine JL.g rfl rfl rfl rfl rfl (fun hg => (QW.move (.tmp rfl))) ?_
                                              refine JL.g rfl rfl rfl rfl rfl (fun hg => (QW.leq (.when rfl hg) .const)) ?_
                                              refine JL.q rfl rfl rfl (QW.pick_and (.tmp rfl) (.tmp rfl)) ?_
                                              first | refine JL.store_boxF 0 ty71 (.tmp rfl) rfl (.tmp rfl) (by first | rfl | assumption) (rfl) (rfl) rfl ?_ | refine JL.store_box 0 ty71 (.tmp rfl) rfl (.tmp rfl) (by first | rfl | assumption) rfl rfl rfl rfl ?_
                                              refine JL.q rfl rfl rfl (QW.assign (.tmp rfl)) ?_
                                              refine JL.nil ?_
                                              refine thenQ.n ?_
                                              refine J.ret ?_
                                              exact ⟨_, [], _, RetEv.two rfl (REv.cell 0 ty71 rfl rfl rfl rfl (.refl _)) (REv.tmp rfl (.refl _)), rfl, List.Perm.refl _, shape_eq (by simp at *; unfold shLo shHi textLo textHi argsN; (repeat' split) <;> (try simp) <;> omega), rfl⟩
                              · try (exfalso; simp at *; omega; done)
                                all_goals
                                  refine J.region_lit ?_
                                  refine JL.q rfl rfl rfl (QW.eql (.tmp rfl) .const) ?_
                                  refine JL.q rfl rfl rfl (QW.assign (.tmp rfl)) ?_
                                  refine JL.nil ?_
                                  refine thenQ.n ?_
                                  refine J.cond (.tmp rfl) (fun c9 => ?_) (fun c9 => ?_)
                                  · try (exfalso; simp at *; omega; done)
                                    all_goals
                                      refine J.seq ?_
                                      refine J.region_lit ?_
                                      refine JL.q rfl rfl rfl (QW.build (idx := [0, 1]) pl71 z71 rfl (.cons .const (.cons .const .nil)) rfl rfl rfl rfl) ?_
                                      first | refine JL.store_boxF 0 ty71 (.tmp rfl) rfl (.tmp rfl) (by first | rfl | assumption) (rfl) (rfl) rfl ?_ | refine JL.store_box 0 ty71 (.tmp rfl) rfl (.tmp rfl) (by first | rfl | assumption) rfl rfl rfl rfl ?_
                                      refine JL.q rfl rfl rfl (QW.assign .const) ?_
                                      refine JL.nil ?_
                                      refine thenQ.n ?_
                                      refine J.ret ?_
                                      refine blkQ.r ?_
                                      refine thenQ.r ?_
                                      exact ⟨_, [], _, RetEv.two rfl (REv.cell 0 ty71 rfl rfl rfl rfl (.refl _)) (REv.tmp rfl (.refl _)), rfl, List.Perm.refl _, shape_eq (by simp at *; unfold shLo shHi textLo textHi argsN; (repeat' split) <;> (try simp) <;> omega), rfl⟩
                                  · try (exfalso; simp at *; omega; done)
                                    all_goals
                                      refine J.seq ?_
                                      refine J.region_lit ?_
                                      refine JL.q rfl rfl rfl (QW.eql (.tmp rfl) .const) ?_
                                      refine JL.q rfl rfl rfl (QW.assign (.tmp rfl)) ?_
                                      refine JL.nil ?_
                                      refine thenQ.n ?_
                                      refine J.cond (.tmp rfl) (fun c10 => ?_) (fun c10 => ?_)
                                      · try (exfalso; simp at *; omega; done)
                                        all_goals
                                          refine J.seq ?_
                                          refine J.region_lit ?_
                                          refine JL.q rfl rfl rfl (QW.build (idx := [0, 1]) pl71 z71 rfl (.cons .const (.cons .const .nil)) rfl rfl rfl rfl) ?_
                                          first | refine JL.store_boxF 0 ty71 (.tmp rfl) rfl (.tmp rfl) (by first | rfl | assumption) (rfl) (rfl) rfl ?_ | refine JL.store_box 0 ty71 (.tmp rfl) rfl (.tmp rfl) (by first | rfl | assumption) rfl rfl rfl rfl ?_
                                          refine JL.q rfl rfl rfl (QW.assign .const) ?_
                                          refine JL.nil ?_
                                          refine thenQ.n ?_
                                          refine J.ret ?_
                                          refine blkQ.r ?_
                                          refine thenQ.r ?_
                                          exact ⟨_, [], _, RetEv.two rfl (REv.cell 0 ty71 rfl rfl rfl rfl (.refl _)) (REv.tmp rfl (.refl _)), rfl, List.Perm.refl _, shape_eq (by simp at *; unfold shLo shHi textLo textHi argsN; (repeat' split) <;> (try simp) <;> omega), rfl⟩
                                      · try (exfalso; simp at *; omega; done)
                                        all_goals
                                          refine J.seq ?_
                                          refine J.region_lit ?_
                                          refine JL.q rfl rfl rfl (QW.eql (.tmp rfl) .const) ?_
                                          refine JL.q rfl rfl rfl (QW.assign (.tmp rfl)) ?_
                                          refine JL.nil ?_
                                          refine thenQ.n ?_
                                          refine J.cond (.tmp rfl) (fun c11 => ?_) (fun c11 => ?_)
                                          · try (exfalso; simp at *; omega; done)
                                            all_goals
                                              refine J.seq ?_
                                              refine J.region_lit ?_
                                              refine JL.q rfl rfl rfl (QW.build (idx := [1]) pl71 z71 rfl (.cons .const .nil) rfl rfl rfl rfl) ?_
                                              first | refine JL.store_boxF 0 ty71 (.tmp rfl) rfl (.tmp rfl) (by first | rfl | assumption) (rfl) (rfl) rfl ?_ | refine JL.store_box 0 ty71 (.tmp rfl) rfl (.tmp rfl) (by first | rfl | assumption) rfl rfl rfl rfl ?_
                                              refine JL.q rfl rfl rfl (QW.assign .const) ?_
                                              refine JL.nil ?_
                                              refine thenQ.n ?_
                                              refine J.ret ?_
                                              refine blkQ.r ?_
                                              refine thenQ.r ?_
                                              exact ⟨_, [], _, RetEv.two rfl (REv.cell 0 ty71 rfl rfl rfl rfl (.refl _)) (REv.tmp rfl (.refl _)), rfl, List.Perm.refl _, shape_eq (by simp at *; unfold shLo shHi textLo textHi argsN; (repeat' split) <;> (try simp) <;> omega), rfl⟩
                                          · try (exfalso; simp at *; omega; done)
                                            all_goals
                                              refine J.skip ?_
                                              refine blkQ.n ?_
                                              refine thenQ.n ?_
                                              refine J.seq ?_
                                              refine J.region_lit ?_
                                              refine JL.q rfl rfl rfl (QW.build (idx := [0, 1]) pl71 z71 rfl (.cons .const (.cons .const .nil)) rfl rfl rfl rfl) ?_
                                              refine JL.q rfl rfl rfl (QW.move (.tmp rfl)) ?_
                                              refine JL.q rfl rfl rfl (QW.gtr (.tmp rfl) .const) ?_
                                              refine JL.q rfl rfl rfl (QW.move (.tmp rfl)) ?_
                                              refine JL.g rfl rfl rfl rfl rfl (fun hg => (QW.move (.tmp rfl))) ?_
                                              refine JL.g rfl rfl rfl rfl rfl (fun hg => (QW.leq (.when rfl hg) .const)) ?_
                                              refine JL.q rfl rfl rfl (QW.pick_and (.tmp rfl) (.tmp rfl)) ?_
                                              first | refine JL.store_boxF 0 ty71 (.tmp rfl) rfl (.tmp rfl) (by first | rfl | assumption) (rfl) (rfl) rfl ?_ | refine JL.store_box 0 ty71 (.tmp rfl) rfl (.tmp rfl) (by first | rfl | assumption) rfl rfl rfl rfl ?_
                                              refine JL.q rfl rfl rfl (QW.assign (.tmp rfl)) ?_
                                              refine JL.nil ?_
                                              refine thenQ.n ?_
                                              refine J.ret ?_
                                              exact ⟨_, [], _, RetEv.two rfl (REv.cell 0 ty71 rfl rfl rfl rfl (.refl _)) (REv.tmp rfl (.refl _)), rfl, List.Perm.refl _, shape_eq (by simp at *; unfold shLo shHi textLo textHi argsN; (repeat' split) <;> (try simp) <;> omega), rfl⟩
  · try (exfalso; simp at *; omega; done)
    all_goals
      refine J.seq ?_
      refine J.region_lit ?_
      refine JL.q rfl rfl rfl (QW.eql (.tmp rfl) .const) ?_
      refine JL.q rfl rfl rfl (QW.assign (.tmp rfl)) ?_
      refine JL.nil ?_
      refine thenQ.n ?_
      refine J.cond (.tmp rfl) (fun c2 => ?_) (fun c2 => ?_)
      · try (exfalso; simp at *; omega; done)
        all_goals
          refine J.skip ?_
          refine thenQ.n ?_
          refine J.cond (.tmp rfl) (fun c3 => ?_) (fun c3 => ?_)
          · try (exfalso; simp at *; omega; done)
            all_goals
              refine J.seq ?_
              refine J.region_lit ?_
              refine JL.q rfl rfl rfl (QW.build (idx := []) pl71 z71 rfl .nil rfl rfl rfl rfl) ?_
              first | refine JL.store_boxF 0 ty71 (.tmp rfl) rfl (.tmp rfl) (by first | rfl | assumption) (rfl) (rfl) rfl ?_ | refine JL.store_box 0 ty71 (.tmp rfl) rfl (.tmp rfl) (by first | rfl | assumption) rfl rfl rfl rfl ?_
              refine JL.q rfl rfl rfl (QW.assign .const) ?_
              refine JL.nil ?_
              refine thenQ.n ?_
              refine J.ret ?_
              refine blkQ.r ?_
              refine thenQ.r ?_
              exact ⟨_, [], _, RetEv.two rfl (REv.cell 0 ty71 rfl rfl rfl rfl (.refl _)) (REv.tmp rfl (.refl _)), rfl, List.Perm.refl _, shape_eq (by simp at *; unfold shLo shHi textLo textHi argsN; (repeat' split) <;> (try simp) <;> omega), rfl⟩
          · try (exfalso; simp at *; omega; done)
            all_goals
              refine J.seq ?_
              refine J.region_lit ?_
              refine JL.q rfl rfl rfl (QW.eql (.tmp rfl) .const) ?_
              refine JL.q rfl rfl rfl (QW.assign (.tmp rfl)) ?_
              refine JL.nil ?_
              refine thenQ.n ?_
              refine J.cond (.tmp rfl) (fun c4 => ?_) (fun c4 => ?_)
              · try (exfalso; simp at *; omega; done)
                all_goals
                  refine J.seq ?_
                  refine J.region_lit ?_
                  refine JL.q rfl rfl rfl (QW.build (idx := [3]) pl71 z71 rfl (.cons .const .nil) rfl rfl rfl rfl) ?_
                  first | refine JL.store_boxF 0 ty71 (.tmp rfl) rfl (.tmp rfl) (by first | rfl | assumption) (rfl) (rfl) rfl ?_ | refine JL.store_box 0 ty71 (.tmp rfl) rfl (.tmp rfl) (by first | rfl | assumption) rfl rfl rfl rfl ?_
                  refine JL.q rfl rfl rfl (QW.assign .const) ?_
                  refine JL.nil ?_
                  refine thenQ.n ?_
                  refine J.ret ?_
                  refine blkQ.r ?_
                  refine thenQ.r ?_
                  exact ⟨_, [], _, RetEv.two rfl (REv.cell 0 ty71 rfl rfl rfl rfl (.refl _)) (REv.tmp rfl (.refl _)), rfl, List.Perm.refl _, shape_eq (by simp at *; unfold shLo shHi textLo textHi argsN; (repeat' split) <;> (try simp) <;> omega), rfl⟩
              · try (exfalso; simp at *; omega; done)
                all_goals
                  refine J.seq ?_
                  refine J.region_lit ?_
                  refine JL.q rfl rfl rfl (QW.eql (.tmp rfl) .const) ?_
                  refine JL.q rfl rfl rfl (QW.assign (.tmp rfl)) ?_
                  refine JL.nil ?_
                  refine thenQ.n ?_
                  refine J.cond (.tmp rfl) (fun c5 => ?_) (fun c5 => ?_)
                  · try (exfalso; simp at *; omega; done)
                    all_goals
                      refine J.seq ?_
                      refine J.region_lit ?_
                      refine JL.q rfl rfl rfl (QW.build (idx := [0, 1, 2, 3]) pl71 z71 rfl (.cons .const (.cons .const (.cons .const (.cons .const .nil)))) rfl rfl rfl rfl) ?_
                      first | refine JL.store_boxF 0 ty71 (.tmp rfl) rfl (.tmp rfl) (by first | rfl | assumption) (rfl) (rfl) rfl ?_ | refine JL.store_box 0 ty71 (.tmp rfl) rfl (.tmp rfl) (by first | rfl | assumption) rfl rfl rfl rfl ?_
                      refine JL.q rfl rfl rfl (QW.assign .const) ?_
                      refine JL.nil ?_
                      refine thenQ.n ?_
                      refine J.ret ?_
                      refine blkQ.r ?_
                      refine thenQ.r ?_
                      exact ⟨_, [], _, RetEv.two rfl (REv.cell 0 ty71 rfl rfl rfl rfl (.refl _)) (REv.tmp rfl (.refl _)), rfl, List.Perm.refl _, shape_eq (by simp at *; unfold shLo shHi textLo textHi argsN; (repeat' split) <;> (try simp) <;> omega), rfl⟩
                  · try (exfalso; simp at *; omega; done)
                    all_goals
                      refine J.seq ?_
                      refine J.region_lit ?_
                      refine JL.q rfl rfl rfl (QW.eql (.tmp rfl) .const) ?_
                      refine JL.q rfl rfl rfl (QW.assign (.tmp rfl)) ?_
                      refine JL.nil ?_
                      refine thenQ.n ?_
                      refine J.cond (.tmp rfl) (fun c6 => ?_) (fun c6 => ?_)
                      · try (exfalso; simp at *; omega; done)
                        all_goals
                          refine J.seq ?_
                          refine J.region_lit ?_
                          refine JL.q rfl rfl rfl (QW.build (idx := [0, 1, 2, 3]) pl71 z71 rfl (.cons .const (.cons .const (.cons .const (.cons .const .nil)))) rfl rfl rfl rfl) ?_
                          first | refine JL.store_boxF 0 ty71 (.tmp rfl) rfl (.tmp rfl) (by first | rfl | assumption) (rfl) (rfl) rfl ?_ | refine JL.store_box 0 ty71 (.tmp rfl) rfl (.tmp rfl) (by first | rfl | assumption) rfl rfl rfl rfl ?_
                          refine JL.q rfl rfl rfl (QW.assign .const) ?_
                          refine JL.nil ?_
                          refine thenQ.n ?_
                          refine J.ret ?_
                          refine blkQ.r ?_
                          refine thenQ.r ?_
                          exact ⟨_, [], _, RetEv.two rfl (REv.cell 0 ty71 rfl rfl rfl rfl (.refl _)) (REv.tmp rfl (.refl _)), rfl, List.Perm.refl _, shape_eq (by simp at *; unfold shLo shHi textLo textHi argsN; (repeat' split) <;> (try simp) <;> omega), rfl⟩
                      · try (exfalso; simp at *; omega; done)
                        all_goals
                          refine J.seq ?_
                          refine J.seq ?_
                          refine J.region_lit ?_
                          refine JL.q rfl rfl rfl (QW.eql (.tmp rfl) .const) ?_
                          refine JL.q rfl rfl rfl (QW.assign (.tmp rfl)) ?_
                          refine JL.nil ?_
                          refine thenQ.n ?_
                          refine J.cond (.tmp rfl) (fun c7 => ?_) (fun c7 => ?_)
                          · try (exfalso; simp at *; omega; done)
                            all_goals
                              refine J.skip ?_
                              refine thenQ.n ?_
                              refine J.cond (.tmp rfl) (fun c8 => ?_) (fun c8 => ?_)
                              · try (exfalso; simp at *; omega; done)
                                all_goals
                                  refine J.seq ?_
                                  refine J.region_lit ?_
                                  refine JL.q rfl rfl rfl (QW.build (idx := [0, 1]) pl71 z71 rfl (.cons .const (.cons .const .nil)) rfl rfl rfl rfl) ?_
                                  first | refine JL.store_boxF 0 ty71 (.tmp rfl) rfl (.tmp rfl) (by first | rfl | assumption) (rfl) (rfl) rfl ?_ | refine JL.store_box 0 ty71 (.tmp rfl) rfl (.tmp rfl) (by first | rfl | assumption) rfl rfl rfl rfl ?_
                                  refine JL.q rfl rfl rfl (QW.assign .const) ?_
                                  refine JL.nil ?_
                                  refine thenQ.n ?_
                                  refine J.ret ?_
                                  refine blkQ.r ?_
                                  refine thenQ.r ?_
                                  exact ⟨_, [], _, RetEv.two rfl (REv.cell 0 ty71 rfl rfl rfl rfl (.refl _)) (REv.tmp rfl (.refl _)), rfl, List.Perm.refl _, shape_eq (by simp at *; unfold shLo shHi textLo textHi argsN; (repeat' split) <;> (try simp) <;> omega), rfl⟩
                              · try (exfalso; simp at *; omega; done)
                                all_goals
                                  refine J.seq ?_
                                  refine J.region_lit ?_
                                  refine JL.q rfl rfl rfl (QW.eql (.tmp rfl) .const) ?_
                                  refine JL.q rfl rfl rfl (QW.assign (.tmp rfl)) ?_
                                  refine JL.nil ?_
                                  refine thenQ.n ?_
                                  refine J.cond (.tmp rfl) (fun c9 => ?_) (fun c9 => ?_)
                                  · try (exfalso; simp at *; omega; done)
                                    all_goals
                                      refine J.seq ?_
                                      refine J.region_lit ?_
                                      refine JL.q rfl rfl rfl (QW.build (idx := [0, 1]) pl71 z71 rfl (.cons .const (.cons .const .nil)) rfl rfl rfl rfl) ?_
                                      first | refine JL.store_boxF 0 ty71 (.tmp rfl) rfl (.tmp rfl) (by first | rfl | assumption) (rfl) (rfl) rfl ?_ | refine JL.store_box 0 ty71 (.tmp rfl) rfl (.tmp rfl) (by first | rfl | assumption) rfl rfl rfl rfl ?_
                                      refine JL.q rfl rfl rfl (QW.assign .const) ?_
                                      refine JL.nil ?_
                                      refine thenQ.n ?_
                                      refine J.ret ?_
                                      refine blkQ.r ?_
                                      refine thenQ.r ?_
                                      exact ⟨_, [], _, RetEv.two rfl (REv.cell 0 ty71 rfl rfl rfl rfl (.refl _)) (REv.tmp rfl (.refl _)), rfl, List.Perm.refl _, shape_eq (by simp at *; unfold shLo shHi textLo textHi argsN; (repeat' split) <;> (try simp) <;> omega), rfl⟩
                                  · try (exfalso; simp at *; omega; done)
                                    all_goals
                                      refine J.seq ?_
                                      refine J.region_lit ?_
                                      refine JL.q rfl rfl rfl (QW.eql (.tmp rfl) .const) ?_
                                      refine JL.q rfl rfl rfl (QW.assign (.tmp rfl)) ?_
                                      refine JL.nil ?_
                                      refine thenQ.n ?_
                                      refine J.cond (.tmp rfl) (fun c10 => ?_) (fun c10 => ?_)
                                      · try (exfalso; simp at *; omega; done)
                                        all_goals
                                          refine J.seq ?_
                                          refine J.region_lit ?_
                                          refine JL.q rfl rfl rfl (QW.build (idx := [1]) pl71 z71 rfl (.cons .const .nil) rfl rfl rfl rfl) ?_
                                          first | refine JL.store_boxF 0 ty71 (.tmp rfl) rfl (.tmp rfl) (by first | rfl | assumption) (rfl) (rfl) rfl ?_ | refine JL.store_box 0 ty71 (.tmp rfl) rfl (.tmp rfl) (by first | rfl | assumption) rfl rfl rfl rfl ?_
                                          refine JL.q rfl rfl rfl (QW.assign .const) ?_
                                          refine JL.nil ?_
                                          refine thenQ.n ?_
                                          refine J.ret ?_
                                          refine blkQ.r ?_
                                          refine thenQ.r ?_
                                          exact ⟨_, [], _, RetEv.two rfl (REv.cell 0 ty71 rfl rfl rfl rfl (.refl _)) (REv.tmp rfl (.refl _)), rfl, List.Perm.refl _, shape_eq (by simp at *; unfold shLo shHi textLo textHi argsN; (repeat' split) <;> (try simp) <;> omega), rfl⟩
                                      · try (exfalso; simp at *; omega; done)
                                        all_goals
                                          refine J.skip ?_
                                          refine blkQ.n ?_
                                          refine thenQ.n ?_
                                          refine J.seq ?_
                                          refine J.region_lit ?_
                                          refine JL.q rfl rfl rfl (QW.build (idx := [0, 1]) pl71 z71 rfl (.cons .const (.cons .const .nil)) rfl rfl rfl rfl) ?_
                                          refine JL.q rfl rfl rfl (QW.move (.tmp rfl)) ?_
                                          refine JL.q rfl rfl rfl (QW.gtr (.tmp rfl) .const) ?_
                                          refine JL.q rfl rfl rfl (QW.move (.tmp rfl)) ?_
                                          refine JL.g rfl rfl rfl rfl rfl (fun hg => (QW.move (.tmp rfl))) ?_
                                          refine JL.g rfl rfl rfl rfl rfl (fun hg => (QW.leq (.when rfl hg) .const)) ?_
                                          refine JL.q rfl rfl rfl (QW.pick_and (.tmp rfl) (.tmp rfl)) ?_
                                          first | refine JL.store_boxF 0 ty71 (.tmp rfl) rfl (.tmp rfl) (by first | rfl | assumption) (rfl) (rfl) rfl ?_ | refine JL.store_box 0 ty71 (.tmp rfl) rfl (.tmp rfl) (by first | rfl | assumption) rfl rfl rfl rfl ?_
                                          refine JL.q rfl rfl rfl (QW.assign (.tmp rfl)) ?_
                                          refine JL.nil ?_
                                          refine thenQ.n ?_
                                          refine J.ret ?_
                                          exact ⟨_, [], _, RetEv.two rfl (REv.cell 0 ty71 rfl rfl rfl rfl (.refl _)) (REv.tmp rfl (.refl _)), rfl, List.Perm.refl _, shape_eq (by simp at *; unfold shLo shHi textLo textHi argsN; (repeat' split) <;> (try simp) <;> omega), rfl⟩
                          · try (exfalso; simp at *; omega; done)
                            all_goals
                              refine J.seq ?_
                              refine J.region_lit ?_
                              refine JL.q rfl rfl rfl (QW.eql (.tmp rfl) .const) ?_
                              refine JL.q rfl rfl rfl (QW.assign (.tmp rfl)) ?_
                              refine JL.nil ?_
                              refine thenQ.n ?_
                              refine J.cond (.tmp rfl) (fun c8 => ?_) (fun c8 => ?_)
                              · try (exfalso; simp at *; omega; done)
                                all_goals
                                  refine J.skip ?_
                                  refine thenQ.n ?_
                                  refine J.cond (.tmp rfl) (fun c9 => ?_) (fun c9 => ?_)
                                  · try (exfalso; simp at *; omega; done)
                                    all_goals
                                      refine J.seq ?_
                                      refine J.region_lit ?_
                                      refine JL.q rfl rfl rfl (QW.build (idx := [0, 1]) pl71 z71 rfl (.cons .const (.cons .const .nil)) rfl rfl rfl rfl) ?_
                                      first | refine JL.store_boxF 0 ty71 (.tmp rfl) rfl (.tmp rfl) (by first | rfl | assumption) (rfl) (rfl) rfl ?_ | refine JL.store_box 0 ty71 (.tmp rfl) rfl (.tmp rfl) (by first | rfl | assumption) rfl rfl rfl rfl ?_
                                      refine JL.q rfl rfl rfl (QW.assign .const) ?_
                                      refine JL.nil ?_
                                      refine thenQ.n ?_
                                      refine J.ret ?_
                                      refine blkQ.r ?_
                                      refine thenQ.r ?_
                                      exact ⟨_, [], _, RetEv.two rfl (REv.cell 0 ty71 rfl rfl rfl rfl (.refl _)) (REv.tmp rfl (.refl _)), rfl, List.Perm.refl _, shape_eq (by simp at *; unfold shLo shHi textLo textHi argsN; (repeat' split) <;> (try simp) <;> omega), rfl⟩
                                  · try (exfalso; simp at *; omega; done)
                                    all_goals
                                      refine J.seq ?_
                                      refine J.region_lit ?_
                                      refine JL.q rfl rfl rfl (QW.eql (.tmp rfl) .const) ?_
                                      refine JL.q rfl rfl rfl (QW.assign (.tmp rfl)) ?_
                                      refine JL.nil ?_
                                      refine thenQ.n ?_
                                      refine J.cond (.tmp rfl) (fun c10 => ?_) (fun c10 => ?_)
                                      · try (exfalso; simp at *; omega; done)
                                        all_goals
                                          refine J.seq ?_
                                          refine J.region_lit ?_
                                          refine JL.q rfl rfl rfl (QW.build (idx := [0, 1]) pl71 z71 rfl (.cons .const (.cons .const .nil)) rfl rfl rfl rfl) ?_
                                          first | refine JL.store_boxF 0 ty71 (.tmp rfl) rfl (.tmp rfl) (by first | rfl | assumption) (rfl) (rfl) rfl ?_ | refine JL.store_box 0 ty71 (.tmp rfl) rfl (.tmp rfl) (by first | rfl | assumption) rfl rfl rfl rfl ?_
                                          refine JL.q rfl rfl rfl (QW.assign .const) ?_
                                          refine JL.nil ?_
                                          refine thenQ.n ?_
                                          refine J.ret ?_
                                          refine blkQ.r ?_
                                          refine thenQ.r ?_
                                          exact ⟨_, [], _, RetEv.two rfl (REv.cell 0 ty71 rfl rfl rfl rfl (.refl _)) (REv.tmp rfl (.refl _)), rfl, List.Perm.refl _, shape_eq (by simp at *; unfold shLo shHi textLo textHi argsN; (repeat' split) <;> (try simp) <;> omega), rfl⟩
                                      · try (exfalso; simp at *; omega; done)
                                        all_goals
                                          refine J.seq ?_
                                          refine J.region_lit ?_
                                          refine JL.q rfl rfl rfl (QW.eql (.tmp rfl) .const) ?_
                                          refine JL.q rfl rfl rfl (QW.assign (.tmp rfl)) ?_
                                          refine JL.nil ?_
                                          refine thenQ.n ?_
                                          refine J.cond (.tmp rfl) (fun c11 => ?_) (fun c11 => ?_)
                                          · try (exfalso; simp at *; omega; done)
                                            all_goals
                                              refine J.seq ?_
                                              refine J.region_lit ?_
                                              refine JL.q rfl rfl rfl (QW.build (idx := [1]) pl71 z71 rfl (.cons .const .nil) rfl rfl rfl rfl) ?_
                                              first | refine JL.store_boxF 0 ty71 (.tmp rfl) rfl (.tmp rfl) (by first | rfl | assumption) (rfl) (rfl) rfl ?_ | refine JL.store_box 0 ty71 (.tmp rfl) rfl (.tmp rfl) (by first | rfl | assumption) rfl rfl rfl rfl ?_
                                              refine JL.q rfl rfl rfl (QW.assign .const) ?_
                                              refine JL.nil ?_
                                              refine thenQ.n ?_
                                              refine J.ret ?_
                                              refine blkQ.r ?_
                                              refine thenQ.r ?_
                                              exact ⟨_, [], _, RetEv.two rfl (REv.cell 0 ty71 rfl rfl rfl rfl (.refl _)) (REv.tmp rfl (.refl _)), rfl, List.Perm.refl _, shape_eq (by simp at *; unfold shLo shHi textLo textHi argsN; (repeat' split) <;> (try simp) <;> omega), rfl⟩
                                          · try (exfalso; simp at *; omega; done)
                                            all_goals
                                              refine J.skip ?_
                                              refine blkQ.n ?_
                                              refine thenQ.n ?_
                                              refine J.seq ?_
                                              refine J.region_lit ?_
                                              refine JL.q rfl rfl rfl (QW.build (idx := [0, 1]) pl71 z71 rfl (.cons .const (.cons .const .nil)) rfl rfl rfl rfl) ?_
                                              refine JL.q rfl rfl rfl (QW.move (.tmp rfl)) ?_
                                              refine JL.q rfl rfl rfl (QW.gtr (.tmp rfl) .const) ?_
                                              refine JL.q rfl rfl rfl (QW.move (.tmp rfl)) ?_
                                              refine JL.g rfl rfl rfl rfl rfl (fun hg => (QW.move (.tmp rfl))) ?_
                                              refine JL.g rfl rfl rfl rfl rfl (fun hg => (QW.leq (.when rfl hg) .const)) ?_
                                              refine JL.q rfl rfl rfl (QW.pick_and (.tmp rfl) (.tmp rfl)) ?_
                                              first | refine JL.store_boxF 0 ty71 (.tmp rfl) rfl (.tmp rfl) (by first | rfl | assumption) (rfl) (rfl) rfl ?_ | refine JL.store_box 0 ty71 (.tmp rfl) rfl (.tmp rfl) (by first | rfl | assumption) rfl rfl rfl rfl ?_
                                              refine JL.q rfl rfl rfl (QW.assign (.tmp rfl)) ?_
                                              refine JL.nil ?_
                                              refine thenQ.n ?_
                                              refine J.ret ?_
                                              exact ⟨_, [], _, RetEv.two rfl (REv.cell 0 ty71 rfl rfl rfl rfl (.refl _)) (REv.tmp rfl (.refl _)), rfl, List.Perm.refl _, shape_eq (by simp at *; unfold shLo shHi textLo textHi argsN; (repeat' split) <;> (try simp) <;> omega), rfl⟩
                              · try (exfalso; simp at *; omega; done)
                                all_goals
                                  refine J.seq ?_
                                  refine J.region_lit ?_
                                  refine JL.q rfl rfl rfl (QW.eql (.tmp rfl) .const) ?_
                                  refine JL.q rfl rfl rfl (QW.assign (.tmp rfl)) ?_
                                  refine JL.nil ?_
                                  refine thenQ.n ?_
                                  refine J.cond (.tmp rfl) (fun c9 => ?_) (fun c9 => ?_)
                                  · try (exfalso; simp at *; omega; done)
                                    all_goals
                                      refine J.skip ?_
                                      refine thenQ.n ?_
                                      refine J.cond (.tmp rfl) (fun c10 => ?_) (fun c10 => ?_)
                                      · try (exfalso; simp at *; omega; done)
                                        all_goals
                                          refine J.seq ?_
                                          refine J.region_lit ?_
                                          refine JL.q rfl rfl rfl (QW.build (idx := [0, 1]) pl71 z71 rfl (.cons .const (.cons .const .nil)) rfl rfl rfl rfl) ?_
                                          first | refine JL.store_boxF 0 ty71 (.tmp rfl) rfl (.tmp rfl) (by first | rfl | assumption) (rfl) (rfl) rfl ?_ | refine JL.store_box 0 ty71 (.tmp rfl) rfl (.tmp rfl) (by first | rfl | assumption) rfl rfl rfl rfl ?_
                                          refine JL.q rfl rfl rfl (QW.assign .const) ?_
                                          refine JL.nil ?_
                                          refine thenQ.n ?_
                                          refine J.ret ?_
                                          refine blkQ.r ?_
                                          refine thenQ.r ?_
                                          exact ⟨_, [], _, RetEv.two rfl (REv.cell 0 ty71 rfl rfl rfl rfl (.refl _)) (REv.tmp rfl (.refl _)), rfl, List.Perm.refl _, shape_eq (by simp at *; unfold shLo shHi textLo textHi argsN; (repeat' split) <;> (try simp) <;> omega), rfl⟩
                                      · try (exfalso; simp at *; omega; done)
                                        all_goals
                                          refine J.seq ?_
                                          refine J.region_lit ?_
                                          refine JL.q rfl rfl rfl (QW.eql (.tmp rfl) .const) ?_
                                          refine JL.q rfl rfl rfl (QW.assign (.tmp rfl)) ?_
                                          refine JL.nil ?_
                                          refine thenQ.n ?_
                                          refine J.cond (.tmp rfl) (fun c11 => ?_) (fun c11 => ?_)
                                          · try (exfalso; simp at *; omega; done)
                                            all_goals
                                              refine J.seq ?_
                                              refine J.region_lit ?_
                                              refine JL.q rfl rfl rfl (QW.build (idx := [0, 1]) pl71 z71 rfl (.cons .const (.cons .const .nil)) rfl rfl rfl rfl) ?_
                                              first | refine JL.store_boxF 0 ty71 (.tmp rfl) rfl (.tmp rfl) (by first | rfl | assumption) (rfl) (rfl) rfl ?_ | refine JL.store_box 0 ty71 (.tmp rfl) rfl (.tmp rfl) (by first | rfl | assumption) rfl rfl rfl rfl ?_
                                              refine JL.q rfl rfl rfl (QW.assign .const) ?_
                                              refine JL.nil ?_
                                              refine thenQ.n ?_
                                              refine J.ret ?_
                                              refine blkQ.r ?_
                                              refine thenQ.r ?_
                                              exact ⟨_, [], _, RetEv.two rfl (REv.cell 0 ty71 rfl rfl rfl rfl (.refl _)) (REv.tmp rfl (.refl _)), rfl, List.Perm.refl _, shape_eq (by simp at *; unfold shLo shHi textLo textHi argsN; (repeat' split) <;> (try simp) <;> omega), rfl⟩
                                          · try (exfalso; simp at *; omega; done)
                                            all_goals
                                              refine J.seq ?_
                                              refine J.region_lit ?_
                                              refine JL.q rfl rfl rfl (QW.eql (.tmp rfl) .const) ?_
                                              refine JL.q rfl rfl rfl (QW.assign (.tmp rfl)) ?_
                                              refine JL.nil ?_
                                              refine thenQ.n ?_
                                              refine J.cond (.tmp rfl) (fun c12 => ?_) (fun c12 => ?_)
                                              · try (exfalso; simp at *; omega; done)
                                                all_goals
                                                  refine J.seq ?_
                                                  refine J.region_lit ?_
                                                  refine JL.q rfl rfl rfl (QW.build (idx := [1]) pl71 z71 rfl (.cons .const .nil) rfl rfl rfl rfl) ?_
                                                  first | refine JL.store_boxF 0 ty71 (.tmp rfl) rfl (.tmp rfl) (by first | rfl | assumption) (rfl) (rfl) rfl ?_ | refine JL.store_box 0 ty71 (.tmp rfl) rfl (.tmp rfl) (by first | rfl | assumption) rfl rfl rfl rfl ?_
                                                  refine JL.q rfl rfl rfl (QW.assign .const) ?_
                                                  refine JL.nil ?_
                                                  refine thenQ.n ?_
                                                  refine J.ret ?_
                                                  refine blkQ.r ?_
                                                  refine thenQ.r ?_
                                                  exact ⟨_, [], _, RetEv.two rfl (REv.cell 0 ty71 rfl rfl rfl rfl (.refl _)) (REv.tmp rfl (.refl _)), rfl, List.Perm.refl _, shape_eq (by simp at *; unfold shLo shHi textLo textHi argsN; (repeat' split) <;> (try simp) <;> omega), rfl⟩
                                              · try (exfalso; simp at *; omega; done)
                                                all_goals
                                                  refine J.skip ?_
                                                  refine blkQ.n ?_
                                                  refine thenQ.n ?_
                                                  refine J.seq ?_
                                                  refine J.region_lit ?_
                                                  refine JL.q rfl rfl rfl (QW.build (idx := [0, 1]) pl71 z71 rfl (.cons .const (.cons .const .nil)) rfl rfl rfl rfl) ?_
                                                  refine JL.q rfl rfl rfl (QW.move (.tmp rfl)) ?_
                                                  refine JL.q rfl rfl rfl (QW.gtr (.tmp rfl) .const) ?_
                                                  refine JL.q rfl rfl rfl (QW.move (.tmp rfl)) ?_
                                                  refine JL.g rfl rfl rfl rfl rfl (fun hg => (QW.move (.tmp rfl))) ?_
                                                  refine JL.g rfl rfl rfl rfl rfl (fun hg => (QW.leq (.when rfl hg) .const)) ?_
                                                  refine JL.q rfl rfl rfl (QW.pick_and (.tmp rfl) (.tmp rfl)) ?_
                                                  first | refine JL.store_boxF 0 ty71 (.tmp rfl) rfl (.tmp rfl) (by first | rfl | assumption) (rfl) (rfl) rfl ?_ | refine JL.store_box 0 ty71 (.tmp rfl) rfl (.tmp rfl) (by first | rfl | assumption) rfl rfl rfl rfl ?_
                                                  refine JL.q rfl rfl rfl (QW.assign (.tmp rfl)) ?_
                                                  refine JL.nil ?_
                                                  refine thenQ.n ?_
                                                  refine J.ret ?_
                                                  exact ⟨_, [], _, RetEv.two rfl (REv.cell 0 ty71 rfl rfl rfl rfl (.refl _)) (REv.tmp rfl (.refl _)), rfl, List.Perm.refl _, shape_eq (by simp at *; unfold shLo shHi textLo textHi argsN; (repeat' split) <;> (try simp) <;> omega), rfl⟩
                                  · try (exfalso; simp at *; omega; done)
                                    all_goals
                                      refine J.region_lit ?_
                                      refine JL.q rfl rfl rfl (QW.eql (.tmp rfl) .const) ?_
                                      refine JL.q rfl rfl rfl (QW.assign (.tmp rfl)) ?_
                                      refine JL.nil ?_
                                      refine thenQ.n ?_
                                      refine J.cond (.tmp rfl) (fun c10 => ?_) (fun c10 => ?_)
                                      · try (exfalso; simp at *; omega; done)
                                        all_goals
                                          refine J.seq ?_
                                          refine J.region_lit ?_
                                          refine JL.q rfl rfl rfl (QW.build (idx := [0, 1]) pl71 z71 rfl (.cons .const (.cons .const .nil)) rfl rfl rfl rfl) ?_
                                          first | refine JL.store_boxF 0 ty71 (.tmp rfl) rfl (.tmp rfl) (by first | rfl | assumption) (rfl) (rfl) rfl ?_ | refine JL.store_box 0 ty71 (.tmp rfl) rfl (.tmp rfl) (by first | rfl | assumption) rfl rfl rfl rfl ?_
                                          refine JL.q rfl rfl rfl (QW.assign .const) ?_
                                          refine JL.nil ?_
                                          refine thenQ.n ?_
                                          refine J.ret ?_
                                          refine blkQ.r ?_
                                          refine thenQ.r ?_
                                          exact ⟨_, [], _, RetEv.two rfl (REv.cell 0 ty71 rfl rfl rfl rfl (.refl _)) (REv.tmp rfl (.refl _)), rfl, List.Perm.refl _, shape_eq (by simp at *; unfold shLo shHi textLo textHi argsN; (repeat' split) <;> (try simp) <;> omega), rfl⟩
                                      · try (exfalso; simp at *; omega; done)
                                        all_goals
                                          refine J.seq ?_
                                          refine J.region_lit ?_
                                          refine JL.q rfl rfl rfl (QW.eql (.tmp rfl) .const) ?_
                                          refine JL.q rfl rfl rfl (QW.assign (.tmp rfl)) ?_
                                          refine JL.nil ?_
                                          refine thenQ.n ?_
                                          refine J.cond (.tmp rfl) (fun c11 => ?_) (fun c11 => ?_)
                                          · try (exfalso; simp at *; omega; done)
                                            all_goals
                                              refine J.seq ?_
                                              refine J.region_lit ?_
                                              refine JL.q rfl rfl rfl (QW.build (idx := [0, 1]) pl71 z71 rfl (.cons .const (.cons .const .nil)) rfl rfl rfl rfl) ?_
                                              first | refine JL.store_boxF 0 ty71 (.tmp rfl) rfl (.tmp rfl) (by first | rfl | assumption) (rfl) (rfl) rfl ?_ | refine JL.store_box 0 ty71 (.tmp rfl) rfl (.tmp rfl) (by first | rfl | assumption) rfl rfl rfl rfl ?_
                                              refine JL.q rfl rfl rfl (QW.assign .const) ?_
                                              refine JL.nil ?_
                                              refine thenQ.n ?_
                                              refine J.ret ?_
                                              refine blkQ.r ?_
                                              refine thenQ.r ?_
                                              exact ⟨_, [], _, RetEv.two rfl (REv.cell 0 ty71 rfl rfl rfl rfl (.refl _)) (REv.tmp rfl (.refl _)), rfl, List.Perm.refl _, shape_eq (by simp at *; unfold shLo shHi textLo textHi argsN; (repeat' split) <;> (try simp) <;> omega), rfl⟩
                                          · try (exfalso; simp at *; omega; done)
                                            all_goals
                                              refine J.seq ?_
                                              refine J.region_lit ?_
                                              refine JL.q rfl rfl rfl (QW.eql (.tmp rfl) .const) ?_
                                              refine JL.q rfl rfl rfl (QW.assign (.tmp rfl)) ?_
                                              refine JL.nil ?_
                                              refine thenQ.n ?_
                                              refine J.cond (.tmp rfl) (fun c12 => ?_) (fun c12 => ?_)
                                              · try (exfalso; simp at *; omega; done)
                                                all_goals
                                                  refine J.seq ?_
                                                  refine J.region_lit ?_
                                                  refine JL.q rfl rfl rfl (QW.build (idx := [1]) pl71 z71 rfl (.cons .const .nil) rfl rfl rfl rfl) ?_
                                                  first | refine JL.store_boxF 0 ty71 (.tmp rfl) rfl (.tmp rfl) (by first | rfl | assumption) (rfl) (rfl) rfl ?_ | refine JL.store_box 0 ty71 (.tmp rfl) rfl (.tmp rfl) (by first | rfl | assumption) rfl rfl rfl rfl ?_
                                                  refine JL.q rfl rfl rfl (QW.assign .const) ?_
                                                  refine JL.nil ?_
                                                  refine thenQ.n ?_
                                                  refine J.ret ?_
                                                  refine blkQ.r ?_
                                                  refine thenQ.r ?_
                                                  exact ⟨_, [], _, RetEv.two rfl (REv.cell 0 ty71 rfl rfl rfl rfl (.refl _)) (REv.tmp rfl (.refl _)), rfl, List.Perm.refl _, shape_eq (by simp at *; unfold shLo shHi textLo textHi argsN; (repeat' split) <;> (try simp) <;> omega), rfl⟩
                                              · try (exfalso; simp at *; omega; done)
                                                all_goals
                                                  refine J.skip ?_
                                                  refine blkQ.n ?_
                                                  refine thenQ.n ?_
                                                  refine J.seq ?_
                                                  refine J.region_lit ?_
                                                  refine JL.q rfl rfl rfl (QW.build (idx := [0, 1]) pl71 z71 rfl (.cons .const (.cons .const .nil)) rfl rfl rfl rfl) ?_
                                                  refine JL.q rfl rfl rfl (QW.move (.tmp rfl)) ?_
                                                  refine JL.q rfl rfl rfl (QW.gtr (.tmp rfl) .const) ?_
                                                  refine JL.q rfl rfl rfl (QW.move (.tmp rfl)) ?_
                                                  refine JL.g rfl rfl rfl rfl rfl (fun hg => (QW.move (.tmp rfl))) ?_
                                                  refine JL.g rfl rfl rfl rfl rfl (fun hg => (QW.leq (.when rfl hg) .const)) ?_
                                                  refine JL.q rfl rfl rfl (QW.pick_and (.tmp rfl) (.tmp rfl)) ?_
                                                  first | refine JL.store_boxF 0 ty71 (.tmp rfl) rfl (.tmp rfl) (by first | rfl | assumption) (rfl) (rfl) rfl ?_ | refine JL.store_box 0 ty71 (.tmp rfl) rfl (.tmp rfl) (by first | rfl | assumption) rfl rfl rfl rfl ?_
                                                  refine JL.q rfl rfl rfl (QW.assign (.tmp rfl)) ?_
                                                  refine JL.nil ?_
                                                  refine thenQ.n ?_
                                                  refine J.ret ?_
                                                  exact ⟨_, [], _, RetEv.two rfl (REv.cell 0 ty71 rfl rfl rfl rfl (.refl _)) (REv.tmp rfl (.refl _)), rfl, List.Perm.refl _, shape_eq (by simp at *; unfold shLo shHi textLo textHi argsN; (repeat' split) <;> (try simp) <;> omega), rfl⟩
      · try (exfalso; simp at *; omega; done)
        all_goals
          refine J.seq ?_
          refine J.region_lit ?_
          refine JL.q rfl rfl rfl (QW.eql (.tmp rfl) .const) ?_
          refine JL.q rfl rfl rfl (QW.assign (.tmp rfl)) ?_
          refine JL.nil ?_
          refine thenQ.n ?_
          refine J.cond (.tmp rfl) (fun c3 => ?_) (fun c3 => ?_)
          · try (exfalso; simp at *; omega; done)
            all_goals
              refine J.skip ?_
              refine thenQ.n ?_
              refine J.cond (.tmp rfl) (fun c4 => ?_) (fun c4 => ?_)
              · try (exfalso; simp at *; omega; done)
                all_goals
                  refine J.seq ?_
                  refine J.region_lit ?_
                  refine JL.q rfl rfl rfl (QW.build (idx := []) pl71 z71 rfl .nil rfl rfl rfl rfl) ?_
                  first | refine JL.store_boxF 0 ty71 (.tmp rfl) rfl (.tmp rfl) (by first | rfl | assumption) (rfl) (rfl) rfl ?_ | refine JL.store_box 0 ty71 (.tmp rfl) rfl (.tmp rfl) (by first | rfl | assumption) rfl rfl rfl rfl ?_
                  refine JL.q rfl rfl rfl (QW.assign .const) ?_
                  refine JL.nil ?_
                  refine thenQ.n ?_
                  refine J.ret ?_
                  refine blkQ.r ?_
                  refine thenQ.r ?_
                  exact ⟨_, [], _, RetEv.two rfl (REv.cell 0 ty71 rfl rfl rfl rfl (.refl _)) (REv.tmp rfl (.refl _)), rfl, List.Perm.refl _, shape_eq (by simp at *; unfold shLo shHi textLo textHi argsN; (repeat' split) <;> (try simp) <;> omega), rfl⟩
              · try (exfalso; simp at *; omega; done)
                all_goals
                  refine J.seq ?_
                  refine J.region_lit ?_
                  refine JL.q rfl rfl rfl (QW.eql (.tmp rfl) .const) ?_
                  refine JL.q rfl rfl rfl (QW.assign (.tmp rfl)) ?_
                  refine JL.nil ?_
                  refine thenQ.n ?_
                  refine J.cond (.tmp rfl) (fun c5 => ?_) (fun c5 => ?_)
                  · try (exfalso; simp at *; omega; done)
                    all_goals
                      refine J.seq ?_
                      refine J.region_lit ?_
                      refine JL.q rfl rfl rfl (QW.build (idx := [3]) pl71 z71 rfl (.cons .const .nil) rfl rfl rfl rfl) ?_
                      first | refine JL.store_boxF 0 ty71 (.tmp rfl) rfl (.tmp rfl) (by first | rfl | assumption) (rfl) (rfl) rfl ?_ | refine JL.store_box 0 ty71 (.tmp rfl) rfl (.tmp rfl) (by first | rfl | assumption) rfl rfl rfl rfl ?_
                      refine JL.q rfl rfl rfl (QW.assign .const) ?_
                      refine JL.nil ?_
                      refine thenQ.n ?_
                      refine J.ret ?_
                      refine blkQ.r ?_
                      refine thenQ.r ?_
                      exact ⟨_, [], _, RetEv.two rfl (REv.cell 0 ty71 rfl rfl rfl rfl (.refl _)) (REv.tmp rfl (.refl _)), rfl, List.Perm.refl _, shape_eq (by simp at *; unfold shLo shHi textLo textHi argsN; (repeat' split) <;> (try simp) <;> omega), rfl⟩
                  · try (exfalso; simp at *; omega; done)
                    all_goals
                      refine J.seq ?_
                      refine J.region_lit ?_
                      refine JL.q rfl rfl rfl (QW.eql (.tmp rfl) .const) ?_
                      refine JL.q rfl rfl rfl (QW.assign (.tmp rfl)) ?_
                      refine JL.nil ?_
                      refine thenQ.n ?_
                      refine J.cond (.tmp rfl) (fun c6 => ?_) (fun c6 => ?_)
                      · try (exfalso; simp at *; omega; done)
                        all_goals
                          refine J.seq ?_
                          refine J.region_lit ?_
                          refine JL.q rfl rfl rfl (QW.build (idx := [0, 1, 2, 3]) pl71 z71 rfl (.cons .const (.cons .const (.cons .const (.cons .const .nil)))) rfl rfl rfl rfl) ?_
                          first | refine JL.store_boxF 0 ty71 (.tmp rfl) rfl (.tmp rfl) (by first | rfl | assumption) (rfl) (rfl) rfl ?_ | refine JL.store_box 0 ty71 (.tmp rfl) rfl (.tmp rfl) (by first | rfl | assumption) rfl rfl rfl rfl ?_
                          refine JL.q rfl rfl rfl (QW.assign .const) ?_
                          refine JL.nil ?_
                          refine thenQ.n ?_
                          refine J.ret ?_
                          refine blkQ.r ?_
                          refine thenQ.r ?_
                          exact ⟨_, [], _, RetEv.two rfl (REv.cell 0 ty71 rfl rfl rfl rfl (.refl _)) (REv.tmp rfl (.refl _)), rfl, List.Perm.refl _, shape_eq (by simp at *; unfold shLo shHi textLo textHi argsN; (repeat' split) <;> (try simp) <;> omega), rfl⟩
                      · try (exfalso; simp at *; omega; done)
                        all_goals
                          refine J.seq ?_
                          refine J.region_lit ?_
                          refine JL.q rfl rfl rfl (QW.eql (.tmp rfl) .const) ?_
                          refine JL.q rfl rfl rfl (QW.assign (.tmp rfl)) ?_
                          refine JL.nil ?_
                          refine thenQ.n ?_
                          refine J.cond (.tmp rfl) (fun c7 => ?_) (fun c7 => ?_)
                          · try (exfalso; simp at *; omega; done)
                            all_goals
                              refine J.seq ?_
                              refine J.region_lit ?_
                              refine JL.q rfl rfl rfl (QW.build (idx := [0, 1, 2, 3]) pl71 z71 rfl (.cons .const (.cons .const (.cons .const (.cons .const .nil)))) rfl rfl rfl rfl) ?_
                              first | refine JL.store_boxF 0 ty71 (.tmp rfl) rfl (.tmp rfl) (by first | rfl | assumption) (rfl) (rfl) rfl ?_ | refine JL.store_box 0 ty71 (.tmp rfl) rfl (.tmp rfl) (by first | rfl | assumption) rfl rfl rfl rfl ?_
                              refine JL.q rfl rfl rfl (QW.assign .const) ?_
                              refine JL.nil ?_
                              refine thenQ.n ?_
                              refine J.ret ?_
                              refine blkQ.r ?_
                              refine thenQ.r ?_
                              exact ⟨_, [], _, RetEv.two rfl (REv.cell 0 ty71 rfl rfl rfl rfl (.refl _)) (REv.tmp rfl (.refl _)), rfl, List.Perm.refl _, shape_eq (by simp at *; unfold shLo shHi textLo textHi argsN; (repeat' split) <;> (try simp) <;> omega), rfl⟩
                          · try (exfalso; simp at *; omega; done)
                            all_goals
                              refine J.seq ?_
                              refine J.seq ?_
                              refine J.region_lit ?_
                              refine JL.q rfl rfl rfl (QW.eql (.tmp rfl) .const) ?_
                              refine JL.q rfl rfl rfl (QW.assign (.tmp rfl)) ?_
                              refine JL.nil ?_
                              refine thenQ.n ?_
                              refine J.cond (.tmp rfl) (fun c8 => ?_) (fun c8 => ?_)
                              · try (exfalso; simp at *; omega; done)
                                all_goals
                                  refine J.skip ?_
                                  refine thenQ.n ?_
                                  refine J.cond (.tmp rfl) (fun c9 => ?_) (fun c9 => ?_)
                                  · try (exfalso; simp at *; omega; done)
                                    all_goals
                                      refine J.seq ?_
                                      refine J.region_lit ?_
                                      refine JL.q rfl rfl rfl (QW.build (idx := [0, 1]) pl71 z71 rfl (.cons .const (.cons .const .nil)) rfl rfl rfl rfl) ?_
                                      first | refine JL.store_boxF 0 ty71 (.tmp rfl) rfl (.tmp rfl) (by first | rfl | assumption) (rfl) (rfl) rfl ?_ | refine JL.store_box 0 ty71 (.tmp rfl) rfl (.tmp rfl) (by first | rfl | assumption) rfl rfl rfl rfl ?_
                                      refine JL.q rfl rfl rfl (QW.assign .const) ?_
                                      refine JL.nil ?_
                                      refine thenQ.n ?_
                                      refine J.ret ?_
                                      refine blkQ.r ?_
                                      refine thenQ.r ?_
                                      exact ⟨_, [], _, RetEv.two rfl (REv.cell 0 ty71 rfl rfl rfl rfl (.refl _)) (REv.tmp rfl (.refl _)), rfl, List.Perm.refl _, shape_eq (by simp at *; unfold shLo shHi textLo textHi argsN; (repeat' split) <;> (try simp) <;> omega), rfl⟩
                                  · try (exfalso; simp at *; omega; done)
                                    all_goals
                                      refine J.seq ?_
                                      refine J.region_lit ?_
                                      refine JL.q rfl rfl rfl (QW.eql (.tmp rfl) .const) ?_
                                      refine JL.q rfl rfl rfl (QW.assign (.tmp rfl)) ?_
                                      refine JL.nil ?_
                                      refine thenQ.n ?_
                                      refine J.cond (.tmp rfl) (fun c10 => ?_) (fun c10 => ?_)
                                      · try (exfalso; simp at *; omega; done)
                                        all_goals
                                          refine J.seq ?_
                                          refine J.region_lit ?_
                                          refine JL.q rfl rfl rfl (QW.build (idx := [0, 1]) pl71 z71 rfl (.cons .const (.cons .const .nil)) rfl rfl rfl rfl) ?_
                                          first | refine JL.store_boxF 0 ty71 (.tmp rfl) rfl (.tmp rfl) (by first | rfl | assumption) (rfl) (rfl) rfl ?_ | refine JL.store_box 0 ty71 (.tmp rfl) rfl (.tmp rfl) (by first | rfl | assumption) rfl rfl rfl rfl ?_
                                          refine JL.q rfl rfl rfl (QW.assign .const) ?_
                                          refine JL.nil ?_
                                          refine thenQ.n ?_
                                          refine J.ret ?_
                                          refine blkQ.r ?_
                                          refine thenQ.r ?_
                                          exact ⟨_, [], _, RetEv.two rfl (REv.cell 0 ty71 rfl rfl rfl rfl (.refl _)) (REv.tmp rfl (.refl _)), rfl, List.Perm.refl _, shape_eq (by simp at *; unfold shLo shHi textLo textHi argsN; (repeat' split) <;> (try simp) <;> omega), rfl⟩
                                      · try (exfalso; simp at *; omega; done)
                                        all_goals
                                          refine J.seq ?_
                                          refine J.region_lit ?_
                                          refine JL.q rfl rfl rfl (QW.eql (.tmp rfl) .const) ?_
                                          refine JL.q rfl rfl rfl (QW.assign (.tmp rfl)) ?_
                                          refine JL.nil ?_
                                          refine thenQ.n ?_
                                          refine J.cond (.tmp rfl) (fun c11 => ?_) (fun c11 => ?_)
                                          · try (exfalso; simp at *; omega; done)
                                            all_goals
                                              refine J.seq ?_
                                              refine J.region_lit ?_
                                              refine JL.q rfl rfl rfl (QW.build (idx := [1]) pl71 z71 rfl (.cons .const .nil) rfl rfl rfl rfl) ?_
                                              first | refine JL.store_boxF 0 ty71 (.tmp rfl) rfl (.tmp rfl) (by first | rfl | assumption) (rfl) (rfl) rfl ?_ | refine JL.store_box 0 ty71 (.tmp rfl) rfl (.tmp rfl) (by first | rfl | assumption) rfl rfl rfl rfl ?_
                                              refine JL.q rfl rfl rfl (QW.assign .const) ?_
                                              refine JL.nil ?_
                                              refine thenQ.n ?_
                                              refine J.ret ?_
                                              refine blkQ.r ?_
                                              refine thenQ.r ?_
                                              exact ⟨_, [], _, RetEv.two rfl (REv.cell 0 ty71 rfl rfl rfl rfl (.refl _)) (REv.tmp rfl (.refl _)), rfl, List.Perm.refl _, shape_eq (by simp at *; unfold shLo shHi textLo textHi argsN; (repeat' split) <;> (try simp) <;> omega), rfl⟩
                                          · try (exfalso; simp at *; omega; done)
                                            all_goals
                                              refine J.skip ?_
                                              refine blkQ.n ?_
                                              refine thenQ.n ?_
                                              refine J.seq ?_
                                              refine J.region_lit ?_
                                              refine JL.q rfl rfl rfl (QW.build (idx := [0, 1]) pl71 z71 rfl (.cons .const (.cons .const .nil)) rfl rfl rfl rfl) ?_
                                              refine JL.q rfl rfl rfl (QW.move (.tmp rfl)) ?_
                                              refine JL.q rfl rfl rfl (QW.gtr (.tmp rfl) .const) ?_
                                              refine JL.q rfl rfl rfl (QW.move (.tmp rfl)) ?_
                                              refine JL.g rfl rfl rfl rfl rfl (fun hg => (QW.move (.tmp rfl))) ?_
                                              refine JL.g rfl rfl rfl rfl rfl (fun hg => (QW.leq (.when rfl hg) .const)) ?_
                                              refine JL.q rfl rfl rfl (QW.pick_and (.tmp rfl) (.tmp rfl)) ?_
                                              first | refine JL.store_boxF 0 ty71 (.tmp rfl) rfl (.tmp rfl) (by first | rfl | assumption) (rfl) (rfl) rfl ?_ | refine JL.store_box 0 ty71 (.tmp rfl) rfl (.tmp rfl) (by first | rfl | assumption) rfl rfl rfl rfl ?_
                                              refine JL.q rfl rfl rfl (QW.assign (.tmp rfl)) ?_
                                              refine JL.nil ?_
                                              refine thenQ.n ?_
                                              refine J.ret ?_
                                              exact ⟨_, [], _, RetEv.two rfl (REv.cell 0 ty71 rfl rfl rfl rfl (.refl _)) (REv.tmp rfl (.refl _)), rfl, List.Perm.refl _, shape_eq (by simp at *; unfold shLo shHi textLo textHi argsN; (repeat' split) <;> (try simp) <;> omega), rfl⟩
                              · try (exfalso; simp at *; omega; done)
                                all_goals
                                  refine J.seq ?_
                                  refine J.region_lit ?_
                                  refine JL.q rfl rfl rfl (QW.eql (.tmp rfl) .const) ?_
                                  refine JL.q rfl rfl rfl (QW.assign (.tmp rfl)) ?_
                                  refine JL.nil ?_
                                  refine thenQ.n ?_
                                  refine J.cond (.tmp rfl) (fun c9 => ?_) (fun c9 => ?_)
                                  · try (exfalso; simp at *; omega; done)
                                    all_goals
                                      refine J.skip ?_
                                      refine thenQ.n ?_
                                      refine J.cond (.tmp rfl) (fun c10 => ?_) (fun c10 => ?_)
                                      · try (exfalso; simp at *; omega; done)
                                        all_goals
                                          refine J.seq ?_
                                          refine J.region_lit ?_
                                          refine JL.q rfl rfl rfl (QW.build (idx := [0, 1]) pl71 z71 rfl (.cons .const (.cons .const .nil)) rfl rfl rfl rfl) ?_
                                          first | refine JL.store_boxF 0 ty71 (.tmp rfl) rfl (.tmp rfl) (by first | rfl | assumption) (rfl) (rfl) rfl ?_ | refine JL.store_box 0 ty71 (.tmp rfl) rfl (.tmp rfl) (by first | rfl | assumption) rfl rfl rfl rfl ?_
                                          refine JL.q rfl rfl rfl (QW.assign .const) ?_
                                          refine JL.nil ?_
                                          refine thenQ.n ?_
                                          refine J.ret ?_
                                          refine blkQ.r ?_
                                          refine thenQ.r ?_
                                          exact ⟨_, [], _, RetEv.two rfl (REv.cell 0 ty71 rfl rfl rfl rfl (.refl _)) (REv.tmp rfl (.refl _)), rfl, List.Perm.refl _, shape_eq (by simp at *; unfold shLo shHi textLo textHi argsN; (repeat' split) <;> (try simp) <;> omega), rfl⟩
                                      · try (exfalso; simp at *; omega; done)
                                        all_goals
                                          refine J.seq ?_
                                          refine J.region_lit ?_
                                          refine JL.q rfl rfl rfl (QW.eql (.tmp rfl) .const) ?_
                                          refine JL.q rfl rfl rfl (QW.assign (.tmp rfl)) ?_
                                          refine JL.nil ?_
                                          refine thenQ.n ?_
                                          refine J.cond (.tmp rfl) (fun c11 => ?_) (fun c11 => ?_)
                                          · try (exfalso; simp at *; omega; done)
                                            all_goals
                                              refine J.seq ?_
                                              refine J.region_lit ?_
                                              refine JL.q rfl rfl rfl (QW.build (idx := [0, 1]) pl71 z71 rfl (.cons .const (.cons .const .nil)) rfl rfl rfl rfl) ?_
                                              first | refine JL.store_boxF 0 ty71 (.tmp rfl) rfl (.tmp rfl) (by first | rfl | assumption) (rfl) (rfl) rfl ?_ | refine JL.store_box 0 ty71 (.tmp rfl) rfl (.tmp rfl) (by first | rfl | assumption) rfl rfl rfl rfl ?_
                                              refine JL.q rfl rfl rfl (QW.assign .const) ?_
                                              refine JL.nil ?_
                                              refine thenQ.n ?_
                                              refine J.ret ?_
                                              refine blkQ.r ?_
                                              refine thenQ.r ?_
                                              exact ⟨_, [], _, RetEv.two rfl (REv.cell 0 ty71 rfl rfl rfl rfl (.refl _)) (REv.tmp rfl (.refl _)), rfl, List.Perm.refl _, shape_eq (by simp at *; unfold shLo shHi textLo textHi argsN; (repeat' split) <;> (try simp) <;> omega), rfl⟩
                                          · try (exfalso; simp at *; omega; done)
                                            all_goals
                                              refine J.seq ?_
                                              refine J.region_lit ?_
                                              refine JL.q rfl rfl rfl (QW.eql (.tmp rfl) .const) ?_
                                              refine JL.q rfl rfl rfl (QW.assign (.tmp rfl)) ?_
                                              refine JL.nil ?_
                                              refine thenQ.n ?_
                                              refine J.cond (.tmp rfl) (fun c12 => ?_) (fun c12 => ?_)
                                              · try (exfalso; simp at *; omega; done)
                                                all_goals
                                                  refine J.seq ?_
                                                  refine J.region_lit ?_
                                                  refine JL.q rfl rfl rfl (QW.build (idx := [1]) pl71 z71 rfl (.cons .const .nil) rfl rfl rfl rfl) ?_
                                                  first | refine JL.store_boxF 0 ty71 (.tmp rfl) rfl (.tmp rfl) (by first | rfl | assumption) (rfl) (rfl) rfl ?_ | refine JL.store_box 0 ty71 (.tmp rfl) rfl (.tmp rfl) (by first | rfl | assumption) rfl rfl rfl rfl ?_
                                                  refine JL.q rfl rfl rfl (QW.assign .const) ?_
                                                  refine JL.nil ?_
                                                  refine thenQ.n ?_
                                                  refine J.ret ?_
                                                  refine blkQ.r ?_
                                                  refine thenQ.r ?_
                                                  exact ⟨_, [], _, RetEv.two rfl (REv.cell 0 ty71 rfl rfl rfl rfl (.refl _)) (REv.tmp rfl (.refl _)), rfl, List.Perm.refl _, shape_eq (by simp at *; unfold shLo shHi textLo textHi argsN; (repeat' split) <;> (try simp) <;> omega), rfl⟩
                                              · try (exfalso; simp at *; omega; done)
                                                all_goals
                                                  refine J.skip ?_
                                                  refine blkQ.n ?_
                                                  refine thenQ.n ?_
                                                  refine J.seq ?_
                                                  refine J.region_lit ?_
                                                  refine JL.q rfl rfl rfl (QW.build (idx := [0, 1]) pl71 z71 rfl (.cons .const (.cons .const .nil)) rfl rfl rfl rfl) ?_
                                                  refine JL.q rfl rfl rfl (QW.move (.tmp rfl)) ?_
                                                  refine JL.q rfl rfl rfl (QW.gtr (.tmp rfl) .const) ?_
                                                  refine JL.q rfl rfl rfl (QW.move (.tmp rfl)) ?_
                                                  refine JL.g rfl rfl rfl rfl rfl (fun hg => (QW.move (.tmp rfl))) ?_
                                                  refine JL.g rfl rfl rfl rfl rfl (fun hg => (QW.leq (.when rfl hg) .const)) ?_
                                                  refine JL.q rfl rfl rfl (QW.pick_and (.tmp rfl) (.tmp rfl)) ?_
                                                  first | refine JL.store_boxF 0 ty71 (.tmp rfl) rfl (.tmp rfl) (by first | rfl | assumption) (rfl) (rfl) rfl ?_ | refine JL.store_box 0 ty71 (.tmp rfl) rfl (.tmp rfl) (by first | rfl | assumption) rfl rfl rfl rfl ?_
                                                  refine JL.q rfl rfl rfl (QW.assign (.tmp rfl)) ?_
                                                  refine JL.nil ?_
                                                  refine thenQ.n ?_
                                                  refine J.ret ?_
                                                  exact ⟨_, [], _, RetEv.two rfl (REv.cell 0 ty71 rfl rfl rfl rfl (.refl _)) (REv.tmp rfl (.refl _)), rfl, List.Perm.refl _, shape_eq (by simp at *; unfold shLo shHi textLo textHi argsN; (repeat' split) <;> (try simp) <;> omega), rfl⟩
                                  · try (exfalso; simp at *; omega; done)
                                    all_goals
                                      refine J.seq ?_
                                      refine J.region_lit ?_
                                      refine JL.q rfl rfl rfl (QW.eql (.tmp rfl) .const) ?_
                                      refine JL.q rfl rfl rfl (QW.assign (.tmp rfl)) ?_
                                      refine JL.nil ?_
                                      refine thenQ.n ?_
                                      refine J.cond (.tmp rfl) (fun c10 => ?_) (fun c10 => ?_)
                                      · try (exfalso; simp at *; omega; done)
                                        all_goals
                                          refine J.skip ?_
                                          refine thenQ.n ?_
                                          refine J.cond (.tmp rfl) (fun c11 => ?_) (fun c11 => ?_)
                                          · try (exfalso; simp at *; omega; done)
                                            all_goals
                                              refine J.seq ?_
                                              refine J.region_lit ?_
                                              refine JL.q rfl rfl rfl (QW.build (idx := [0, 1]) pl71 z71 rfl (.cons .const (.cons .const .nil)) rfl rfl rfl rfl) ?_
                                              first | refine JL.store_boxF 0 ty71 (.tmp rfl) rfl (.tmp rfl) (by first | rfl | assumption) (rfl) (rfl) rfl ?_ | refine JL.store_box 0 ty71 (.tmp rfl) rfl (.tmp rfl) (by first | rfl | assumption) rfl rfl rfl rfl ?_
                                              refine JL.q rfl rfl rfl (QW.assign .const) ?_
                                              refine JL.nil ?_
                                              refine thenQ.n ?_
                                              refine J.ret ?_
                                              refine blkQ.r ?_
                                              refine thenQ.r ?_
                                              exact ⟨_, [], _, RetEv.two rfl (REv.cell 0 ty71 rfl rfl rfl rfl (.refl _)) (REv.tmp rfl (.refl _)), rfl, List.Perm.refl _, shape_eq (by simp at *; unfold shLo shHi textLo textHi argsN; (repeat' split) <;> (try simp) <;> omega), rfl⟩
                                          · try (exfalso; simp at *; omega; done)
                                            all_goals
                                              refine J.seq ?_
                                              refine J.region_lit ?_
                                              refine JL.q rfl rfl rfl (QW.eql (.tmp rfl) .const) ?_
                                              refine JL.q rfl rfl rfl (QW.assign (.tmp rfl)) ?_
                                              refine JL.nil ?_
                                              refine thenQ.n ?_
                                              refine J.cond (.tmp rfl) (fun c12 => ?_) (fun c12 => ?_)
                                              · try (exfalso; simp at *; omega; done)
                                                all_goals
                                                  refine J.seq ?_
                                                  refine J.region_lit ?_
                                                  refine JL.q rfl rfl rfl (QW.build (idx := [0, 1]) pl71 z71 rfl (.cons .const (.cons .const .nil)) rfl rfl rfl rfl) ?_
                                                  first | refine JL.store_boxF 0 ty71 (.tmp rfl) rfl (.tmp rfl) (by first | rfl | assumption) (rfl) (rfl) rfl ?_ | refine JL.store_box 0 ty71 (.tmp rfl) rfl (.tmp rfl) (by first | rfl | assumption) rfl rfl rfl rfl ?_
                                                  refine JL.q rfl rfl rfl (QW.assign .const) ?_
                                                  refine JL.nil ?_
                                                  refine thenQ.n ?_
                                                  refine J.ret ?_
                                                  refine blkQ.r ?_
                                                  refine thenQ.r ?_
                                                  exact ⟨_, [], _, RetEv.two rfl (REv.cell 0 ty71 rfl rfl rfl rfl (.refl _)) (REv.tmp rfl (.refl _)), rfl, List.Perm.refl _, shape_eq (by simp at *; unfold shLo shHi textLo textHi argsN; (repeat' split) <;> (try simp) <;> omega), rfl⟩
                                              · try (exfalso; simp at *; omega; done)
                                                all_goals
                                                  refine J.seq ?_
                                                  refine J.region_lit ?_
                                                  refine JL.q rfl rfl rfl (QW.eql (.tmp rfl) .const) ?_
                                                  refine JL.q rfl rfl rfl (QW.assign (.tmp rfl)) ?_
                                                  refine JL.nil ?_
                                                  refine thenQ.n ?_
                                                  refine J.cond (.tmp rfl) (fun c13 => ?_) (fun c13 => ?_)
                                                  · try (exfalso; simp at *; omega; done)
                                                    all_goals
                                                      refine J.seq ?_
                                                      refine J.region_lit ?_
                                                      refine JL.q rfl rfl rfl (QW.build (idx := [1]) pl71 z71 rfl (.cons .const .nil) rfl rfl rfl rfl) ?_
                                                      first | refine JL.store_boxF 0 ty71 (.tmp rfl) rfl (.tmp rfl) (by first | rfl | assumption) (rfl) (rfl) rfl ?_ | refine JL.store_box 0 ty71 (.tmp rfl) rfl (.tmp rfl) (by first | rfl | assumption) rfl rfl rfl rfl ?_
                                                      refine JL.q rfl rfl rfl (QW.assign .const) ?_
                                                      refine JL.nil ?_
                                                      refine thenQ.n ?_
                                                      refine J.ret ?_
                                                      refine blkQ.r ?_
                                                      refine thenQ.r ?_
                                                      exact ⟨_, [], _, RetEv.two rfl (REv.cell 0 ty71 rfl rfl rfl rfl (.refl _)) (REv.tmp rfl (.refl _)), rfl, List.Perm.refl _, shape_eq (by simp at *; unfold shLo shHi textLo textHi argsN; (repeat' split) <;> (try simp) <;> omega), rfl⟩
                                                  · try (exfalso; simp at *; omega; done)
                                                    all_goals
                                                      refine J.skip ?_
                                                      refine blkQ.n ?_
                                                      refine thenQ.n ?_
                                                      refine J.seq ?_
                                                      refine J.region_lit ?_
                                                      refine JL.q rfl rfl rfl (QW.build (idx := [0, 1]) pl71 z71 rfl (.cons .const (.cons .const .nil)) rfl rfl rfl rfl) ?_
                                                      refine JL.q rfl rfl rfl (QW.move (.tmp rfl)) ?_
                                                      refine JL.q rfl rfl rfl (QW.gtr (.tmp rfl) .const) ?_
                                                      refine JL.q rfl rfl rfl (QW.move (.tmp rfl)) ?_
                                                      refine JL.g rfl rfl rfl rfl rfl (fun hg => (QW.move (.tmp rfl))) ?_
                                                      refine JL.g rfl rfl rfl rfl rfl (fun hg => (QW.leq (.when rfl hg) .const)) ?_
                                                      refine JL.q rfl rfl rfl (QW.pick_and (.tmp rfl) (.tmp rfl)) ?_
                                                      first | refine JL.store_boxF 0 ty71 (.tmp rfl) rfl (.tmp rfl) (by first | rfl | assumption) (rfl) (rfl) rfl ?_ | refine JL.store_box 0 ty71 (.tmp rfl) rfl (.tmp rfl) (by first | rfl | assumption) rfl rfl rfl rfl ?_
                                                      refine JL.q rfl rfl rfl (QW.assign (.tmp rfl)) ?_
                                                      refine JL.nil ?_
                                                      refine thenQ.n ?_
                                                      refine J.ret ?_
                                                      exact ⟨_, [], _, RetEv.two rfl (REv.cell 0 ty71 rfl rfl rfl rfl (.refl _)) (REv.tmp rfl (.refl _)), rfl, List.Perm.refl _, shape_eq (by simp at *; unfold shLo shHi textLo textHi argsN; (repeat' split) <;> (try simp) <;> omega), rfl⟩
                                      · try (exfalso; simp at *; omega; done)
                                        all_goals
                                          refine J.region_lit ?_
                                          refine JL.q rfl rfl rfl (QW.eql (.tmp rfl) .const) ?_
                                          refine JL.q rfl rfl rfl (QW.assign (.tmp rfl)) ?_
                                          refine JL.nil ?_
                                          refine thenQ.n ?_
                                          refine J.cond (.tmp rfl) (fun c11 => ?_) (fun c11 => ?_)
                                          · try (exfalso; simp at *; omega; done)
                                            all_goals
                                              refine J.seq ?_
                                              refine J.region_lit ?_
                                              refine JL.q rfl rfl rfl (QW.build (idx := [0, 1]) pl71 z71 rfl (.cons .const (.cons .const .nil)) rfl rfl rfl rfl) ?_
                                              first | refine JL.store_boxF 0 ty71 (.tmp rfl) rfl (.tmp rfl) (by first | rfl | assumption) (rfl) (rfl) rfl ?_ | refine JL.store_box 0 ty71 (.tmp rfl) rfl (.tmp rfl) (by first | rfl | assumption) rfl rfl rfl rfl ?_
                                              refine JL.q rfl rfl rfl (QW.assign .const) ?_
                                              refine JL.nil ?_
                                              refine thenQ.n ?_
                                              refine J.ret ?_
                                              refine blkQ.r ?_
                                              refine thenQ.r ?_
                                              exact ⟨_, [], _, RetEv.two rfl (REv.cell 0 ty71 rfl rfl rfl rfl (.refl _)) (REv.tmp rfl (.refl _)), rfl, List.Perm.refl _, shape_eq (by simp at *; unfold shLo shHi textLo textHi argsN; (repeat' split) <;> (try simp) <;> omega), rfl⟩
                                          · try (exfalso; simp at *; omega; done)
                                            all_goals
                                              refine J.seq ?_
                                              refine J.region_lit ?_
                                              refine JL.q rfl rfl rfl (QW.eql (.tmp rfl) .const) ?_
                                              refine JL.q rfl rfl rfl (QW.assign (.tmp rfl)) ?_
                                              refine JL.nil ?_
                                              refine thenQ.n ?_
                                              refine J.cond (.tmp rfl) (fun c12 => ?_) (fun c12 => ?_)
                                              · try (exfalso; simp at *; omega; done)
                                                all_goals
                                                  refine J.seq ?_
                                                  refine J.region_lit ?_
                                                  refine JL.q rfl rfl rfl (QW.build (idx := [0, 1]) pl71 z71 rfl (.cons .const (.cons .const .nil)) rfl rfl rfl rfl) ?_
                                                  first | refine JL.store_boxF 0 ty71 (.tmp rfl) rfl (.tmp rfl) (by first | rfl | assumption) (rfl) (rfl) rfl ?_ | refine JL.store_box 0 ty71 (.tmp rfl) rfl (.tmp rfl) (by first | rfl | assumption) rfl rfl rfl rfl ?_
                                                  refine JL.q rfl rfl rfl (QW.assign .const) ?_
                                                  refine JL.nil ?_
                                                  refine thenQ.n ?_
                                                  refine J.ret ?_
                                                  refine blkQ.r ?_
                                                  refine thenQ.r ?_
                                                  exact ⟨_, [], _, RetEv.two rfl (REv.cell 0 ty71 rfl rfl rfl rfl (.refl _)) (REv.tmp rfl (.refl _)), rfl, List.Perm.refl _, shape_eq (by simp at *; unfold shLo shHi textLo textHi argsN; (repeat' split) <;> (try simp) <;> omega), rfl⟩
                                              · try (exfalso; simp at *; omega; done)
                                                all_goals
                                                  refine J.seq ?_
                                                  refine J.region_lit ?_
                                                  refine JL.q rfl rfl rfl (QW.eql (.tmp rfl) .const) ?_
                                                  refine JL.q rfl rfl rfl (QW.assign (.tmp rfl)) ?_
                                                  refine JL.nil ?_
                                                  refine thenQ.n ?_
                                                  refine J.cond (.tmp rfl) (fun c13 => ?_) (fun c13 => ?_)
                                                  · try (exfalso; simp at *; omega; done)
                                                    all_goals
                                                      refine J.seq ?_
                                                      refine J.region_lit ?_
                                                      refine JL.q rfl rfl rfl (QW.build (idx := [1]) pl71 z71 rfl (.cons .const .nil) rfl rfl rfl rfl) ?_
                                                      first | refine JL.store_boxF 0 ty71 (.tmp rfl) rfl (.tmp rfl) (by first | rfl | assumption) (rfl) (rfl) rfl ?_ | refine JL.store_box 0 ty71 (.tmp rfl) rfl (.tmp rfl) (by first | rfl | assumption) rfl rfl rfl rfl ?_
                                                      refine JL.q rfl rfl rfl (QW.assign .const) ?_
                                                      refine JL.nil ?_
                                                      refine thenQ.n ?_
                                                      refine J.ret ?_
                                                      refine blkQ.r ?_
                                                      refine thenQ.r ?_
                                                      exact ⟨_, [], _, RetEv.two rfl (REv.cell 0 ty71 rfl rfl rfl rfl (.refl _)) (REv.tmp rfl (.refl _)), rfl, List.Perm.refl _, shape_eq (by simp at *; unfold shLo shHi textLo textHi argsN; (repeat' split) <;> (try simp) <;> omega), rfl⟩
                                                  · try (exfalso; simp at *; omega; done)
                                                    all_goals
                                                      refine J.skip ?_
                                                      refine blkQ.n ?_
                                                      refine thenQ.n ?_
                                                      refine J.seq ?_
                                                      refine J.region_lit ?_
                                                      refine JL.q rfl rfl rfl (QW.build (idx := [0, 1]) pl71 z71 rfl (.cons .const (.cons .const .nil)) rfl rfl rfl rfl) ?_
                                                      refine JL.q rfl rfl rfl (QW.move (.tmp rfl)) ?_
                                                      refine JL.q rfl rfl rfl (QW.gtr (.tmp rfl) .const) ?_
                                                      refine JL.q rfl rfl rfl (QW.move (.tmp rfl)) ?_
                                                      refine JL.g rfl rfl rfl rfl rfl (fun hg => (QW.move (.tmp rfl))) ?_
                                                      refine JL.g rfl rfl rfl rfl rfl (fun hg => (QW.leq (.when rfl hg) .const)) ?_
                                                      refine JL.q rfl rfl rfl (QW.pick_and (.tmp rfl) (.tmp rfl)) ?_
                                                      first | refine JL.store_boxF 0 ty71 (.tmp rfl) rfl (.tmp rfl) (by first | rfl | assumption) (rfl) (rfl) rfl ?_ | refine JL.store_box 0 ty71 (.tmp rfl) rfl (.tmp rfl) (by first | rfl | assumption) rfl rfl rfl rfl ?_
                                                      refine JL.q rfl rfl rfl (QW.assign (.tmp rfl)) ?_
                                                      refine JL.nil ?_
                                                      refine thenQ.n ?_
                                                      refine J.ret ?_
                                                      exact ⟨_, [], _, RetEv.two rfl (REv.cell 0 ty71 rfl rfl rfl rfl (.refl _)) (REv.tmp rfl (.refl _)), rfl, List.Perm.refl _, shape_eq (by simp at *; unfold shLo shHi textLo textHi argsN; (repeat' split) <;> (try simp) <;> omega), rfl⟩
          · try (exfalso; simp at *; omega; done)
            all_goals
              refine J.seq ?_
              refine J.region_lit ?_
              refine JL.q rfl rfl rfl (QW.eql (.tmp rfl) .const) ?_
              refine JL.q rfl rfl rfl (QW.assign (.tmp rfl)) ?_
              refine JL.nil ?_
              refine thenQ.n ?_
              refine J.cond (.tmp rfl) (fun c4 => ?_) (fun c4 => ?_)
              · try (exfalso; simp at *; omega; done)
                all_goals
                  refine J.skip ?_
                  refine thenQ.n ?_
                  refine J.cond (.tmp rfl) (fun c5 => ?_) (fun c5 => ?_)
                  · try (exfalso; simp at *; omega; done)
                    all_goals
                      refine J.seq ?_
                      refine J.region_lit ?_
                      refine JL.q rfl rfl rfl (QW.build (idx := []) pl71 z71 rfl .nil rfl rfl rfl rfl) ?_
                      first | refine JL.store_boxF 0 ty71 (.tmp rfl) rfl (.tmp rfl) (by first | rfl | assumption) (rfl) (rfl) rfl ?_ | refine JL.store_box 0 ty71 (.tmp rfl) rfl (.tmp rfl) (by first | rfl | assumption) rfl rfl rfl rfl ?_
                      refine JL.q rfl rfl rfl (QW.assign .const) ?_
                      refine JL.nil ?_
                      refine thenQ.n ?_
                      refine J.ret ?_
                      refine blkQ.r ?_
                      refine thenQ.r ?_
                      exact ⟨_, [], _, RetEv.two rfl (REv.cell 0 ty71 rfl rfl rfl rfl (.refl _)) (REv.tmp rfl (.refl _)), rfl, List.Perm.refl _, shape_eq (by simp at *; unfold shLo shHi textLo textHi argsN; (repeat' split) <;> (try simp) <;> omega), rfl⟩
                  · try (exfalso; simp at *; omega; done)
                    all_goals
                      refine J.seq ?_
                      refine J.region_lit ?_
                      refine JL.q rfl rfl rfl (QW.eql (.tmp rfl) .const) ?_
                      refine JL.q rfl rfl rfl (QW.assign (.tmp rfl)) ?_
                      refine JL.nil ?_
                      refine thenQ.n ?_
                      refine J.cond (.tmp rfl) (fun c6 => ?_) (fun c6 => ?_)
                      · try (exfalso; simp at *; omega; done)
                        all_goals
                          refine J.seq ?_
                          refine J.region_lit ?_
                          refine JL.q rfl rfl rfl (QW.build (idx := [3]) pl71 z71 rfl (.cons .const .nil) rfl rfl rfl rfl) ?_
                          first | refine JL.store_boxF 0 ty71 (.tmp rfl) rfl (.tmp rfl) (by first | rfl | assumption) (rfl) (rfl) rfl ?_ | refine JL.store_box 0 ty71 (.tmp rfl) rfl (.tmp rfl) (by first | rfl | assumption) rfl rfl rfl rfl ?_
                          refine JL.q rfl rfl rfl (QW.assign .const) ?_
                          refine JL.nil ?_
                          refine thenQ.n ?_
                          refine J.ret ?_
                          refine blkQ.r ?_
                          refine thenQ.r ?_
                          exact ⟨_, [], _, RetEv.two rfl (REv.cell 0 ty71 rfl rfl rfl rfl (.refl _)) (REv.tmp rfl (.refl _)), rfl, List.Perm.refl _, shape_eq (by simp at *; unfold shLo shHi textLo textHi argsN; (repeat' split) <;> (try simp) <;> omega), rfl⟩
                      · try (exfalso; simp at *; omega; done)
                        all_goals
                          refine J.seq ?_
                          refine J.region_lit ?_
                          refine JL.q rfl rfl rfl (QW.eql (.tmp rfl) .const) ?_
                          refine JL.q rfl rfl rfl (QW.assign (.tmp rfl)) ?_
                          refine JL.nil ?_
                          refine thenQ.n ?_
                          refine J.cond (.tmp rfl) (fun c7 => ?_) (fun c7 => ?_)
                          · try (exfalso; simp at *; omega; done)
                            all_goals
                              refine J.seq ?_
                              refine J.region_lit ?_
                              refine JL.q rfl rfl rfl (QW.build (idx := [0, 1, 2, 3]) pl71 z71 rfl (.cons .const (.cons .const (.cons .const (.cons .const .nil)))) rfl rfl rfl rfl) ?_
                              first | refine JL.store_boxF 0 ty71 (.tmp rfl) rfl (.tmp rfl) (by first | rfl | assumption) (rfl) (rfl) rfl ?_ | refine JL.store_box 0 ty71 (.tmp rfl) rfl (.tmp rfl) (by first | rfl | assumption) rfl rfl rfl rfl ?_
                              refine JL.q rfl rfl rfl (QW.assign .const) ?_
                              refine JL.nil ?_
                              refine thenQ.n ?_
                              refine J.ret ?_
                              refine blkQ.r ?_
                              refine thenQ.r ?_
                              exact ⟨_, [], _, RetEv.two rfl (REv.cell 0 ty71 rfl rfl rfl rfl (.refl _)) (REv.tmp rfl (.refl _)), rfl, List.Perm.refl _, shape_eq (by simp at *; unfold shLo shHi textLo textHi argsN; (repeat' split) <;> (try simp) <;> omega), rfl⟩
                          · try (exfalso; simp at *; omega; done)
                            all_goals
                              refine J.seq ?_
                              refine J.region_lit ?_
                              refine JL.q rfl rfl rfl (QW.eql (.tmp rfl) .const) ?_
                              refine JL.q rfl rfl rfl (QW.assign (.tmp rfl)) ?_
                              refine JL.nil ?_
                              refine thenQ.n ?_
                              refine J.cond (.tmp rfl) (fun c8 => ?_) (fun c8 => ?_)
                              · try (exfalso; simp at *; omega; done)
                                all_goals
                                  refine J.seq ?_
                                  refine J.region_lit ?_
                                  refine JL.q rfl rfl rfl (QW.build (idx := [0, 1, 2, 3]) pl71 z71 rfl (.cons .const (.cons .const (.cons .const (.cons .const .nil)))) rfl rfl rfl rfl) ?_
                                  first | refine JL.store_boxF 0 ty71 (.tmp rfl) rfl (.tmp rfl) (by first | rfl | assumption) (rfl) (rfl) rfl ?_ | refine JL.store_box 0 ty71 (.tmp rfl) rfl (.tmp rfl) (by first | rfl | assumption) rfl rfl rfl rfl ?_
                                  refine JL.q rfl rfl rfl (QW.assign .const) ?_
                                  refine JL.nil ?_
                                  refine thenQ.n ?_
                                  refine J.ret ?_
                                  refine blkQ.r ?_
                                  refine thenQ.r ?_
                                  exact ⟨_, [], _, RetEv.two rfl (REv.cell 0 ty71 rfl rfl rfl rfl (.refl _)) (REv.tmp rfl (.refl _)), rfl, List.Perm.refl _, shape_eq (by simp at *; unfold shLo shHi textLo textHi argsN; (repeat' split) <;> (try simp) <;> omega), rfl⟩
                              · try (exfalso; simp at *; omega; done)
                                all_goals
                                  refine J.seq ?_
                                  refine J.seq ?_
                                  refine J.region_lit ?_
                                  refine JL.q rfl rfl rfl (QW.eql (.tmp rfl) .const) ?_
                                  refine JL.q rfl rfl rfl (QW.assign (.tmp rfl)) ?_
                                  refine JL.nil ?_
                                  refine thenQ.n ?_
                                  refine J.cond (.tmp rfl) (fun c9 => ?_) (fun c9 => ?_)
                                  · try (exfalso; simp at *; omega; done)
                                    all_goals
                                      refine J.skip ?_
                                      refine thenQ.n ?_
                                      refine J.cond (.tmp rfl) (fun c10 => ?_) (fun c10 => ?_)
                                      · try (exfalso; simp at *; omega; done)
                                        all_goals
                                          refine J.seq ?_
                                          refine J.region_lit ?_
                                          refine JL.q rfl rfl rfl (QW.build (idx := [0, 1]) pl71 z71 rfl (.cons .const (.cons .const .nil)) rfl rfl rfl rfl) ?_
                                          first | refine JL.store_boxF 0 ty71 (.tmp rfl) rfl (.tmp rfl) (by first | rfl | assumption) (rfl) (rfl) rfl ?_ | refine JL.store_box 0 ty71 (.tmp rfl) rfl (.tmp rfl) (by first | rfl | assumption) rfl rfl rfl rfl ?_
                                          refine JL.q rfl rfl rfl (QW.assign .const) ?_
                                          refine JL.nil ?_
                                          refine thenQ.n ?_
                                          refine J.ret ?_
                                          refine blkQ.r ?_
                                          refine thenQ.r ?_
                                          exact ⟨_, [], _, RetEv.two rfl (REv.cell 0 ty71 rfl rfl rfl rfl (.refl _)) (REv.tmp rfl (.refl _)), rfl, List.Perm.refl _, shape_eq (by simp at *; unfold shLo shHi textLo textHi argsN; (repeat' split) <;> (try simp) <;> omega), rfl⟩
                                      · try (exfalso; simp at *; omega; done)
                                        all_goals
                                          refine J.seq ?_
                                          refine J.region_lit ?_
                                          refine JL.q rfl rfl rfl (QW.eql (.tmp rfl) .const) ?_
                                          refine JL.q rfl rfl rfl (QW.assign (.tmp rfl)) ?_
                                          refine JL.nil ?_
                                          refine thenQ.n ?_
                                          refine J.cond (.tmp rfl) (fun c11 => ?_) (fun c11 => ?_)
                                          · try (exfalso; simp at *; omega; done)
                                            all_goals
                                              refine J.seq ?_
                                              refine J.region_lit ?_
                                              refine JL.q rfl rfl rfl (QW.build (idx := [0, 1]) pl71 z71 rfl (.cons .const (.cons .const .nil)) rfl rfl rfl rfl) ?_
                                              first | refine JL.store_boxF 0 ty71 (.tmp rfl) rfl (.tmp rfl) (by first | rfl | assumption) (rfl) (rfl) rfl ?_ | refine JL.store_box 0 ty71 (.tmp rfl) rfl (.tmp rfl) (by first | rfl | assumption) rfl rfl rfl rfl ?_
                                              refine JL.q rfl rfl rfl (QW.assign .const) ?_
                                              refine JL.nil ?_
                                              refine thenQ.n ?_
                                              refine J.ret ?_
                                              refine blkQ.r ?_
                                              refine thenQ.r ?_
                                              exact ⟨_, [], _, RetEv.two rfl (REv.cell 0 ty71 rfl rfl rfl rfl (.refl _)) (REv.tmp rfl (.refl _)), rfl, List.Perm.refl _, shape_eq (by simp at *; unfold shLo shHi textLo textHi argsN; (repeat' split) <;> (try simp) <;> omega), rfl⟩
                                          · try (exfalso; simp at *; omega; done)
                                            all_goals
                                              refine J.seq ?_
                                              refine J.region_lit ?_
                                              refine JL.q rfl rfl rfl (QW.eql (.tmp rfl) .const) ?_
                                              refine JL.q rfl rfl rfl (QW.assign (.tmp rfl)) ?_
                                              refine JL.nil ?_
                                              refine thenQ.n ?_
                                              refine J.cond (.tmp rfl) (fun c12 => ?_) (fun c12 => ?_)
                                              · try (exfalso; simp at *; omega; done)
                                                all_goals
                                                  refine J.seq ?_
                                                  refine J.region_lit ?_
                                                  refine JL.q rfl rfl rfl (QW.build (idx := [1]) pl71 z71 rfl (.cons .const .nil) rfl rfl rfl rfl) ?_
                                                  first | refine JL.store_boxF 0 ty71 (.tmp rfl) rfl (.tmp rfl) (by first | rfl | assumption) (rfl) (rfl) rfl ?_ | refine JL.store_box 0 ty71 (.tmp rfl) rfl (.tmp rfl) (by first | rfl | assumption) rfl rfl rfl rfl ?_
                                                  refine JL.q rfl rfl rfl (QW.assign .const) ?_
                                                  refine JL.nil ?_
                                                  refine thenQ.n ?_
                                                  refine J.ret ?_
                                                  refine blkQ.r ?_
                                                  refine thenQ.r ?_
                                                  exact ⟨_, [], _, RetEv.two rfl (REv.cell 0 ty71 rfl rfl rfl rfl (.refl _)) (REv.tmp rfl (.refl _)), rfl, List.Perm.refl _, shape_eq (by simp at *; unfold shLo shHi textLo textHi argsN; (repeat' split) <;> (try simp) <;> omega), rfl⟩
                                              · try (exfalso; simp at *; omega; done)
                                                all_goals
                                                  refine J.skip ?_
                                                  refine blkQ.n ?_
                                                  refine thenQ.n ?_
                                                  refine J.seq ?_
                                                  refine J.region_lit ?_
                                                  refine JL.q rfl rfl rfl (QW.build (idx := [0, 1]) pl71 z71 rfl (.cons .const (.cons .const .nil)) rfl rfl rfl rfl) ?_
                                                  refine JL.q rfl rfl rfl (QW.move (.tmp rfl)) ?_
                                                  refine JL.q rfl rfl rfl (QW.gtr (.tmp rfl) .const) ?_
                                                  refine JL.q rfl rfl rfl (QW.move (.tmp rfl)) ?_
                                                  refine JL.g rfl rfl rfl rfl rfl (fun hg => (QW.move (.tmp rfl))) ?_
                                                  refine JL.g rfl rfl rfl rfl rfl (fun hg => (QW.leq (.when rfl hg) .const)) ?_
                                                  refine JL.q rfl rfl rfl (QW.pick_and (.tmp rfl) (.tmp rfl)) ?_
                                                  first | refine JL.store_boxF 0 ty71 (.tmp rfl) rfl (.tmp rfl) (by first | rfl | assumption) (rfl) (rfl) rfl ?_ | refine JL.store_box 0 ty71 (.tmp rfl) rfl (.tmp rfl) (by first | rfl | assumption) rfl rfl rfl rfl ?_
                                                  refine JL.q rfl rfl rfl (QW.assign (.tmp rfl)) ?_
                                                  refine JL.nil ?_
                                                  refine thenQ.n ?_
                                                  refine J.ret ?_
                                                  exact ⟨_, [], _, RetEv.two rfl (REv.cell 0 ty71 rfl rfl rfl rfl (.refl _)) (REv.tmp rfl (.refl _)), rfl, List.Perm.refl _, shape_eq (by simp at *; unfold shLo shHi textLo textHi argsN; (repeat' split) <;> (try simp) <;> omega), rfl⟩
                                  · try (exfalso; simp at *; omega; done)
                                    all_goals
                                      refine J.seq ?_
                                      refine J.region_lit ?_
                                      refine JL.q rfl rfl rfl (QW.eql (.tmp rfl) .const) ?_
                                      refine JL.q rfl rfl rfl (QW.assign (.tmp rfl)) ?_
                                      refine JL.nil ?_
                                      refine thenQ.n ?_
                                      refine J.cond (.tmp rfl) (fun c10 => ?_) (fun c10 => ?_)
                                      · try (exfalso; simp at *; omega; done)
                                        all_goals
                                          refine J.skip ?_
                                          refine thenQ.n ?_
                                          refine J.cond (.tmp rfl) (fun c11 => ?_) (fun c11 => ?_)
                                          · try (exfalso; simp at *; omega; done)
                                            all_goals
                                              refine J.seq ?_
                                              refine J.region_lit ?_
                                              refine JL.q rfl rfl rfl (QW.build (idx := [0, 1]) pl71 z71 rfl (.cons .const (.cons .const .nil)) rfl rfl rfl rfl) ?_
                                              first | refine JL.store_boxF 0 ty71 (.tmp rfl) rfl (.tmp rfl) (by first | rfl | assumption) (rfl) (rfl) rfl ?_ | refine JL.store_box 0 ty71 (.tmp rfl) rfl (.tmp rfl) (by first | rfl | assumption) rfl rfl rfl rfl ?_
                                              refine JL.q rfl rfl rfl (QW.assign .const) ?_
                                              refine JL.nil ?_
                                              refine thenQ.n ?_
                                              refine J.ret ?_
                                              refine blkQ.r ?_
                                              refine thenQ.r ?_
                                              exact ⟨_, [], _, RetEv.two rfl (REv.cell 0 ty71 rfl rfl rfl rfl (.refl _)) (REv.tmp rfl (.refl _)), rfl, List.Perm.refl _, shape_eq (by simp at *; unfold shLo shHi textLo textHi argsN; (repeat' split) <;> (try simp) <;> omega), rfl⟩
                                          · try (exfalso; simp at *; omega; done)
                                            all_goals
                                              refine J.seq ?_
                                              refine J.region_lit ?_
                                              refine JL.q rfl rfl rfl (QW.eql (.tmp rfl) .const) ?_
                                              refine JL.q rfl rfl rfl (QW.assign (.tmp rfl)) ?_
                                              refine JL.nil ?_
                                              refine thenQ.n ?_
                                              refine J.cond (.tmp rfl) (fun c12 => ?_) (fun c12 => ?_)
                                              · try (exfalso; simp at *; omega; done)
                                                all_goals
                                                  refine J.seq ?_
                                                  refine J.region_lit ?_
                                                  refine JL.q rfl rfl rfl (QW.build (idx := [0, 1]) pl71 z71 rfl (.cons .const (.cons .const .nil)) rfl rfl rfl rfl) ?_
                                                  first | refine JL.store_boxF 0 ty71 (.tmp rfl) rfl (.tmp rfl) (by first | rfl | assumption) (rfl) (rfl) rfl ?_ | refine JL.store_box 0 ty71 (.tmp rfl) rfl (.tmp rfl) (by first | rfl | assumption) rfl rfl rfl rfl ?_
                                                  refine JL.q rfl rfl rfl (QW.assign .const) ?_
                                                  refine JL.nil ?_
                                                  refine thenQ.n ?_
                                                  refine J.ret ?_
                                                  refine blkQ.r ?_
                                                  refine thenQ.r ?_
                                                  exact ⟨_, [], _, RetEv.two rfl (REv.cell 0 ty71 rfl rfl rfl rfl (.refl _)) (REv.tmp rfl (.refl _)), rfl, List.Perm.refl _, shape_eq (by simp at *; unfold shLo shHi textLo textHi argsN; (repeat' split) <;> (try simp) <;> omega), rfl⟩
                                              · try (exfalso; simp at *; omega; done)
                                                all_goals
                                                  refine J.seq ?_
                                                  refine J.region_lit ?_
                                                  refine JL.q rfl rfl rfl (QW.eql (.tmp rfl) .const) ?_
                                                  refine JL.q rfl rfl rfl (QW.assign (.tmp rfl)) ?_
                                                  refine JL.nil ?_
                                                  refine thenQ.n ?_
                                                  refine J.cond (.tmp rfl) (fun c13 => ?_) (fun c13 => ?_)
                                                  · try (exfalso; simp at *; omega; done)
                                                    all_goals
                                                      refine J.seq ?_
                                                      refine J.region_lit ?_
                                                      refine JL.q rfl rfl rfl (QW.build (idx := [1]) pl71 z71 rfl (.cons .const .nil) rfl rfl rfl rfl) ?_
                                                      first | refine JL.store_boxF 0 ty71 (.tmp rfl) rfl (.tmp rfl) (by first | rfl | assumption) (rfl) (rfl) rfl ?_ | refine JL.store_box 0 ty71 (.tmp rfl) rfl (.tmp rfl) (by first | rfl | assumption) rfl rfl rfl rfl ?_
                                                      refine JL.q rfl rfl rfl (QW.assign .const) ?_
                                                      refine JL.nil ?_
                                                      refine thenQ.n ?_
                                                      refine J.ret ?_
                                                      refine blkQ.r ?_
                                                      refine thenQ.r ?_
                                                      exact ⟨_, [], _, RetEv.two rfl (REv.cell 0 ty71 rfl rfl rfl rfl (.refl _)) (REv.tmp rfl (.refl _)), rfl, List.Perm.refl _, shape_eq (by simp at *; unfold shLo shHi textLo textHi argsN; (repeat' split) <;> (try simp) <;> omega), rfl⟩
                                                  · try (exfalso; simp at *; omega; done)
                                                    all_goals
                                                      refine J.skip ?_
                                                      refine blkQ.n ?_
                                                      refine thenQ.n ?_
                                                      refine J.seq ?_
                                                      refine J.region_lit ?_
                                                      refine JL.q rfl rfl rfl (QW.build (idx := [0, 1]) pl71 z71 rfl (.cons .const (.cons .const .nil)) rfl rfl rfl rfl) ?_
                                                      refine JL.q rfl rfl rfl (QW.move (.tmp rfl)) ?_
                                                      refine JL.q rfl rfl rfl (QW.gtr (.tmp rfl) .const) ?_
                                                      refine JL.q rfl rfl rfl (QW.move (.tmp rfl)) ?_
                                                      refine JL.g rfl rfl rfl rfl rfl (fun hg => (QW.move (.tmp rfl))) ?_
                                                      refine JL.g rfl rfl rfl rfl rfl (fun hg => (QW.leq (.when rfl hg) .const)) ?_
                                                      refine JL.q rfl rfl rfl (QW.pick_and (.tmp rfl) (.tmp rfl)) ?_
                                                      first | refine JL.store_boxF 0 ty71 (.tmp rfl) rfl (.tmp rfl) (by first | rfl | assumption) (rfl) (rfl) rfl ?_ | refine JL.store_box 0 ty71 (.tmp rfl) rfl (.tmp rfl) (by first | rfl | assumption) rfl rfl rfl rfl ?_
                                                      refine JL.q rfl rfl rfl (QW.assign (.tmp rfl)) ?_
                                                      refine JL.nil ?_
                                                      refine thenQ.n ?_
                                                      refine J.ret ?_
                                                      exact ⟨_, [], _, RetEv.two rfl (REv.cell 0 ty71 rfl rfl rfl rfl (.refl _)) (REv.tmp rfl (.refl _)), rfl, List.Perm.refl _, shape_eq (by simp at *; unfold shLo shHi textLo textHi argsN; (repeat' split) <;> (try simp) <;> omega), rfl⟩
                                      · try (exfalso; simp at *; omega; done)
                                        all_goals
                                          refine J.seq ?_
                                          refine J.region_lit ?_
                                          refine JL.q rfl rfl rfl (QW.eql (.tmp rfl) .const) ?_
                                          refine JL.q rfl rfl rfl (QW.assign (.tmp rfl)) ?_
                                          refine JL.nil ?_
                                          refine thenQ.n ?_
                                          refine J.cond (.tmp rfl) (fun c11 => ?_) (fun c11 => ?_)
                                          · try (exfalso; simp at *; omega; done)
                                            all_goals
                                              refine J.skip ?_
                                              refine thenQ.n ?_
                                              refine J.cond (.tmp rfl) (fun c12 => ?_) (fun c12 => ?_)
                                              · try (exfalso; simp at *; omega; done)
                                                all_goals
                                                  refine J.seq ?_
                                                  refine J.region_lit ?_
                                                  refine JL.q rfl rfl rfl (QW.build (idx := [0, 1]) pl71 z71 rfl (.cons .const (.cons .const .nil)) rfl rfl rfl rfl) ?_
                                                  first | refine JL.store_boxF 0 ty71 (.tmp rfl) rfl (.tmp rfl) (by first | rfl | assumption) (rfl) (rfl) rfl ?_ | refine JL.store_box 0 ty71 (.tmp rfl) rfl (.tmp rfl) (by first | rfl | assumption) rfl rfl rfl rfl ?_
                                                  refine JL.q rfl rfl rfl (QW.assign .const) ?_
                                                  refine JL.nil ?_
                                                  refine thenQ.n ?_
                                                  refine J.ret ?_
                                                  refine blkQ.r ?_
                                                  refine thenQ.r ?_
                                                  exact ⟨_, [], _, RetEv.two rfl (REv.cell 0 ty71 rfl rfl rfl rfl (.refl _)) (REv.tmp rfl (.refl _)), rfl, List.Perm.refl _, shape_eq (by simp at *; unfold shLo shHi textLo textHi argsN; (repeat' split) <;> (try simp) <;> omega), rfl⟩
                                              · try (exfalso; simp at *; omega; done)
                                                all_goals
                                                  refine J.seq ?_
                                                  refine J.region_lit ?_
                                                  refine JL.q rfl rfl rfl (QW.eql (.tmp rfl) .const) ?_
                                                  refine JL.q rfl rfl rfl (QW.assign (.tmp rfl)) ?_
                                                  refine JL.nil ?_
                                                  refine thenQ.n ?_
                                                  refine J.cond (.tmp rfl) (fun c13 => ?_) (fun c13 => ?_)
                                                  · try (exfalso; simp at *; omega; done)
                                                    all_goals
                                                      refine J.seq ?_
                                                      refine J.region_lit ?_
                                                      refine JL.q rfl rfl rfl (QW.build (idx := [0, 1]) pl71 z71 rfl (.cons .const (.cons .const .nil)) rfl rfl rfl rfl) ?_
                                                      first | refine JL.store_boxF 0 ty71 (.tmp rfl) rfl (.tmp rfl) (by first | rfl | assumption) (rfl) (rfl) rfl ?_ | refine JL.store_box 0 ty71 (.tmp rfl) rfl (.tmp rfl) (by first | rfl | assumption) rfl rfl rfl rfl ?_
                                                      refine JL.q rfl rfl rfl (QW.assign .const) ?_
                                                      refine JL.nil ?_
                                                      refine thenQ.n ?_
                                                      refine J.ret ?_
                                                      refine blkQ.r ?_
                                                      refine thenQ.r ?_
                                                      exact ⟨_, [], _, RetEv.two rfl (REv.cell 0 ty71 rfl rfl rfl rfl (.refl _)) (REv.tmp rfl (.refl _)), rfl, List.Perm.refl _, shape_eq (by simp at *; unfold shLo shHi textLo textHi argsN; (repeat' split) <;> (try simp) <;> omega), rfl⟩
                                                  · try (exfalso; simp at *; omega; done)
                                                    all_goals
                                                      refine J.seq ?_
                                                      refine J.region_lit ?_
                                                      refine JL.q rfl rfl rfl (QW.eql (.tmp rfl) .const) ?_
                                                      refine JL.q rfl rfl rfl (QW.assign (.tmp rfl)) ?_
                                                      refine JL.nil ?_
                                                      refine thenQ.n ?_
                                                      refine J.cond (.tmp rfl) (fun c14 => ?_) (fun c14 => ?_)
                                                      · try (exfalso; simp at *; omega; done)
                                                        all_goals
                                                          refine J.seq ?_
                                                          refine J.region_lit ?_
                                                          refine JL.q rfl rfl rfl (QW.build (idx := [1]) pl71 z71 rfl (.cons .const .nil) rfl rfl rfl rfl) ?_
                                                          first | refine JL.store_boxF 0 ty71 (.tmp rfl) rfl (.tmp rfl) (by first | rfl | assumption) (rfl) (rfl) rfl ?_ | refine JL.store_box 0 ty71 (.tmp rfl) rfl (.tmp rfl) (by first | rfl | assumption) rfl rfl rfl rfl ?_
                                                          refine JL.q rfl rfl rfl (QW.assign .const) ?_
                                                          refine JL.nil ?_
                                                          refine thenQ.n ?_
                                                          refine J.ret ?_
                                                          refine blkQ.r ?_
                                                          refine thenQ.r ?_
                                                          exact ⟨_, [], _, RetEv.two rfl (REv.cell 0 ty71 rfl rfl rfl rfl (.refl _)) (REv.tmp rfl (.refl _)), rfl, List.Perm.refl _, shape_eq (by simp at *; unfold shLo shHi textLo textHi argsN; (repeat' split) <;> (try simp) <;> omega), rfl⟩
                                                      · try (exfalso; simp at *; omega; done)
                                                        all_goals
                                                          refine J.skip ?_
                                                          refine blkQ.n ?_
                                                          refine thenQ.n ?_
                                                          refine J.seq ?_
                                                          refine J.region_lit ?_
                                                          refine JL.q rfl rfl rfl (QW.build (idx := [0, 1]) pl71 z71 rfl (.cons .const (.cons .const .nil)) rfl rfl rfl rfl) ?_
                                                          refine JL.q rfl rfl rfl (QW.move (.tmp rfl)) ?_
                                                          refine JL.q rfl rfl rfl (QW.gtr (.tmp rfl) .const) ?_
                                                          refine JL.q rfl rfl rfl (QW.move (.tmp rfl)) ?_
                                                          refine JL.g rfl rfl rfl rfl rfl (fun hg => (QW.move (.tmp rfl))) ?_
                                                          refine JL.g rfl rfl rfl rfl rfl (fun hg => (QW.leq (.when rfl hg) .const)) ?_
                                                          refine JL.q rfl rfl rfl (QW.pick_and (.tmp rfl) (.tmp rfl)) ?_
                                                          first | refine JL.store_boxF 0 ty71 (.tmp rfl) rfl (.tmp rfl) (by first | rfl | assumption) (rfl) (rfl) rfl ?_ | refine JL.store_box 0 ty71 (.tmp rfl) rfl (.tmp rfl) (by first | rfl | assumption) rfl rfl rfl rfl ?_
                                                          refine JL.q rfl rfl rfl (QW.assign (.tmp rfl)) ?_
                                                          refine JL.nil ?_
                                                          refine thenQ.n ?_
                                                          refine J.ret ?_
                                                          exact ⟨_, [], _, RetEv.two rfl (REv.cell 0 ty71 rfl rfl rfl rfl (.refl _)) (REv.tmp rfl (.refl _)), rfl, List.Perm.refl _, shape_eq (by simp at *; unfold shLo shHi textLo textHi argsN; (repeat' split) <;> (try simp) <;> omega), rfl⟩
                                          · try (exfalso; simp at *; omega; done)
                                            all_goals
                                              refine J.region_lit ?_
                                              refine JL.q rfl rfl rfl (QW.eql (.tmp rfl) .const) ?_
                                              refine JL.q rfl rfl rfl (QW.assign (.tmp rfl)) ?_
                                              refine JL.nil ?_
                                              refine thenQ.n ?_
                                              refine J.cond (.tmp rfl) (fun c12 => ?_) (fun c12 => ?_)
                                              · try (exfalso; simp at *; omega; done)
                                                all_goals
                                                  refine J.seq ?_
                                                  refine J.region_lit ?_
                                                  refine JL.q rfl rfl rfl (QW.build (idx := [0, 1]) pl71 z71 rfl (.cons .const (.cons .const .nil)) rfl rfl rfl rfl) ?_
                                                  first | refine JL.store_boxF 0 ty71 (.tmp rfl) rfl (.tmp rfl) (by first | rfl | assumption) (rfl) (rfl) rfl ?_ | refine JL.store_box 0 ty71 (.tmp rfl) rfl (.tmp rfl) (by first | rfl | assumption) rfl rfl rfl rfl ?_
                                                  refine JL.q rfl rfl rfl (QW.assign .const) ?_
                                                  refine JL.nil ?_
                                                  refine thenQ.n ?_
                                                  refine J.ret ?_
                                                  refine blkQ.r ?_
                                                  refine thenQ.r ?_
                                                  exact ⟨_, [], _, RetEv.two rfl (REv.cell 0 ty71 rfl rfl rfl rfl (.refl _)) (REv.tmp rfl (.refl _)), rfl, List.Perm.refl _, shape_eq (by simp at *; unfold shLo shHi textLo textHi argsN; (repeat' split) <;> (try simp) <;> omega), rfl⟩
                                              · try (exfalso; simp at *; omega; done)
                                                all_goals
                                                  refine J.seq ?_
                                                  refine J.region_lit ?_
                                                  refine JL.q rfl rfl rfl (QW.eql (.tmp rfl) .const) ?_
                                                  refine JL.q rfl rfl rfl (QW.assign (.tmp rfl)) ?_
                                                  refine JL.nil ?_
                                                  refine thenQ.n ?_
                                                  refine J.cond (.tmp rfl) (fun c13 => ?_) (fun c13 => ?_)
                                                  · try (exfalso; simp at *; omega; done)
                                                    all_goals
                                                      refine J.seq ?_
                                                      refine J.region_lit ?_
                                                      refine JL.q rfl rfl rfl (QW.build (idx := [0, 1]) pl71 z71 rfl (.cons .const (.cons .const .nil)) rfl rfl rfl rfl) ?_
                                                      first | refine JL.store_boxF 0 ty71 (.tmp rfl) rfl (.tmp rfl) (by first | rfl | assumption) (rfl) (rfl) rfl ?_ | refine JL.store_box 0 ty71 (.tmp rfl) rfl (.tmp rfl) (by first | rfl | assumption) rfl rfl rfl rfl ?_
                                                      refine JL.q rfl rfl rfl (QW.assign .const) ?_
                                                      refine JL.nil ?_
                                                      refine thenQ.n ?_
                                                      refine J.ret ?_
                                                      refine blkQ.r ?_
                                                      refine thenQ.r ?_
                                                      exact ⟨_, [], _, RetEv.two rfl (REv.cell 0 ty71 rfl rfl rfl rfl (.refl _)) (REv.tmp rfl (.refl _)), rfl, List.Perm.refl _, shape_eq (by simp at *; unfold shLo shHi textLo textHi argsN; (repeat' split) <;> (try simp) <;> omega), rfl⟩
                                                  · try (exfalso; simp at *; omega; done)
                                                    all_goals
                                                      refine J.seq ?_
                                                      refine J.region_lit ?_
                                                      refine JL.q rfl rfl rfl (QW.eql (.tmp rfl) .const) ?_
                                                      refine JL.q rfl rfl rfl (QW.assign (.tmp rfl)) ?_
                                                      refine JL.nil ?_
                                                      refine thenQ.n ?_
                                                      refine J.cond (.tmp rfl) (fun c14 => ?_) (fun c14 => ?_)
                                                      · try (exfalso; simp at *; omega; done)
                                                        all_goals
                                                          refine J.seq ?_
                                                          refine J.region_lit ?_
                                                          refine JL.q rfl rfl rfl (QW.build (idx := [1]) pl71 z71 rfl (.cons .const .nil) rfl rfl rfl rfl) ?_
                                                          first | refine JL.store_boxF 0 ty71 (.tmp rfl) rfl (.tmp rfl) (by first | rfl | assumption) (rfl) (rfl) rfl ?_ | refine JL.store_box 0 ty71 (.tmp rfl) rfl (.tmp rfl) (by first | rfl | assumption) rfl rfl rfl rfl ?_
                                                          refine JL.q rfl rfl rfl (QW.assign .const) ?_
                                                          refine JL.nil ?_
                                                          refine thenQ.n ?_
                                                          refine J.ret ?_
                                                          refine blkQ.r ?_
                                                          refine thenQ.r ?_
                                                          exact ⟨_, [], _, RetEv.two rfl (REv.cell 0 ty71 rfl rfl rfl rfl (.refl _)) (REv.tmp rfl (.refl _)), rfl, List.Perm.refl _, shape_eq (by simp at *; unfold shLo shHi textLo textHi argsN; (repeat' split) <;> (try simp) <;> omega), rfl⟩
                                                      · try (exfalso; simp at *; omega; done)
                                                        all_goals
                                                          refine J.skip ?_
                                                          refine blkQ.n ?_
                                                          refine thenQ.n ?_
                                                          refine J.seq ?_
                                                          refine J.region_lit ?_
                                                          refine JL.q rfl rfl rfl (QW.build (idx := [0, 1]) pl71 z71 rfl (.cons .const (.cons .const .nil)) rfl rfl rfl rfl) ?_
                                                          refine JL.q rfl rfl rfl (QW.move (.tmp rfl)) ?_
                                                          refine JL.q rfl rfl rfl (QW.gtr (.tmp rfl) .const) ?_
                                                          refine JL.q rfl rfl rfl (QW.move (.tmp rfl)) ?_
                                                          refine JL.g rfl rfl rfl rfl rfl (fun hg => (QW.move (.tmp rfl))) ?_
                                                          refine JL.g rfl rfl rfl rfl rfl (fun hg => (QW.leq (.when rfl hg) .const)) ?_
                                                          refine JL.q rfl rfl rfl (QW.pick_and (.tmp rfl) (.tmp rfl)) ?_
                                                          first | refine JL.store_boxF 0 ty71 (.tmp rfl) rfl (.tmp rfl) (by first | rfl | assumption) (rfl) (rfl) rfl ?_ | refine JL.store_box 0 ty71 (.tmp rfl) rfl (.tmp rfl) (by first | rfl | assumption) rfl rfl rfl rfl ?_
                                                          refine JL.q rfl rfl rfl (QW.assign (.tmp rfl)) ?_
                                                          refine JL.nil ?_
                                                          refine thenQ.n ?_
                                                          refine J.ret ?_
                                                          exact ⟨_, [], _, RetEv.two rfl (REv.cell 0 ty71 rfl rfl rfl rfl (.refl _)) (REv.tmp rfl (.refl _)), rfl, List.Perm.refl _, shape_eq (by simp at *; unfold shLo shHi textLo textHi argsN; (repeat' split) <;> (try simp) <;> omega), rfl⟩
              · try (exfalso; simp at *; omega; done)
                all_goals
                  refine J.seq ?_
                  refine J.region_lit ?_
                  refine JL.q rfl rfl rfl (QW.eql (.tmp rfl) .const) ?_
                  refine JL.q rfl rfl rfl (QW.assign (.tmp rfl)) ?_
                  refine JL.nil ?_
                  refine thenQ.n ?_
                  refine J.cond (.tmp rfl) (fun c5 => ?_) (fun c5 => ?_)
                  · try (exfalso; simp at *; omega; done)
                    all_goals
                      refine J.skip ?_
                      refine thenQ.n ?_
                      refine J.cond (.tmp rfl) (fun c6 => ?_) (fun c6 => ?_)
                      · try (exfalso; simp at *; omega; done)
                        all_goals
                          refine J.seq ?_
                          refine J.region_lit ?_
                          refine JL.q rfl rfl rfl (QW.build (idx := []) pl71 z71 rfl .nil rfl rfl rfl rfl) ?_
                          first | refine JL.store_boxF 0 ty71 (.tmp rfl) rfl (.tmp rfl) (by first | rfl | assumption) (rfl) (rfl) rfl ?_ | refine JL.store_box 0 ty71 (.tmp rfl) rfl (.tmp rfl) (by first | rfl | assumption) rfl rfl rfl rfl ?_
                          refine JL.q rfl rfl rfl (QW.assign .const) ?_
                          refine JL.nil ?_
                          refine thenQ.n ?_
                          refine J.ret ?_
                          refine blkQ.r ?_
                          refine thenQ.r ?_
                          exact ⟨_, [], _, RetEv.two rfl (REv.cell 0 ty71 rfl rfl rfl rfl (.refl _)) (REv.tmp rfl (.refl _)), rfl, List.Perm.refl _, shape_eq (by simp at *; unfold shLo shHi textLo textHi argsN; (repeat' split) <;> (try simp) <;> omega), rfl⟩
                      · try (exfalso; simp at *; omega; done)
                        all_goals
                          refine J.seq ?_
                          refine J.region_lit ?_
                          refine JL.q rfl rfl rfl (QW.eql (.tmp rfl) .const) ?_
                          refine JL.q rfl rfl rfl (QW.assign (.tmp rfl)) ?_
                          refine JL.nil ?_
                          refine thenQ.n ?_
                          refine J.cond (.tmp rfl) (fun c7 => ?_) (fun c7 => ?_)
                          · try (exfalso; simp at *; omega; done)
                            all_goals
                              refine J.seq ?_
                              refine J.region_lit ?_
                              refine JL.q rfl rfl rfl (QW.build (idx := [3]) pl71 z71 rfl (.cons .const .nil) rfl rfl rfl rfl) ?_
                              first | refine JL.store_boxF 0 ty71 (.tmp rfl) rfl (.tmp rfl) (by first | rfl | assumption) (rfl) (rfl) rfl ?_ | refine JL.store_box 0 ty71 (.tmp rfl) rfl (.tmp rfl) (by first | rfl | assumption) rfl rfl rfl rfl ?_
                              refine JL.q rfl rfl rfl (QW.assign .const) ?_
                              refine JL.nil ?_
                              refine thenQ.n ?_
                              refine J.ret ?_
                              refine blkQ.r ?_
                              refine thenQ.r ?_
                              exact ⟨_, [], _, RetEv.two rfl (REv.cell 0 ty71 rfl rfl rfl rfl (.refl _)) (REv.tmp rfl (.refl _)), rfl, List.Perm.refl _, shape_eq (by simp at *; unfold shLo shHi textLo textHi argsN; (repeat' split) <;> (try simp) <;> omega), rfl⟩
                          · try (exfalso; simp at *; omega; done)
                            all_goals
                              refine J.seq ?_
                              refine J.region_lit ?_
                              refine JL.q rfl rfl rfl (QW.eql (.tmp rfl) .const) ?_
                              refine JL.q rfl rfl rfl (QW.assign (.tmp rfl)) ?_
                              refine JL.nil ?_
                              refine thenQ.n ?_
                              refine J.cond (.tmp rfl) (fun c8 => ?_) (fun c8 => ?_)
                              · try (exfalso; simp at *; omega; done)
                                all_goals
                                  refine J.seq ?_
                                  refine J.region_lit ?_
                                  refine JL.q rfl rfl rfl (QW.build (idx := [0, 1, 2, 3]) pl71 z71 rfl (.cons .const (.cons .const (.cons .const (.cons .const .nil)))) rfl rfl rfl rfl) ?_
                                  first | refine JL.store_boxF 0 ty71 (.tmp rfl) rfl (.tmp rfl) (by first | rfl | assumption) (rfl) (rfl) rfl ?_ | refine JL.store_box 0 ty71 (.tmp rfl) rfl (.tmp rfl) (by first | rfl | assumption) rfl rfl rfl rfl ?_
                                  refine JL.q rfl rfl rfl (QW.assign .const) ?_
                                  refine JL.nil ?_
                                  refine thenQ.n ?_
                                  refine J.ret ?_
                                  refine blkQ.r ?_
                                  refine thenQ.r ?_
                                  exact ⟨_, [], _, RetEv.two rfl (REv.cell 0 ty71 rfl rfl rfl rfl (.refl _)) (REv.tmp rfl (.refl _)), rfl, List.Perm.refl _, shape_eq (by simp at *; unfold shLo shHi textLo textHi argsN; (repeat' split) <;> (try simp) <;> omega), rfl⟩
                              · try (exfalso; simp at *; omega; done)
                                all_goals
                                  refine J.seq ?_
                                  refine J.region_lit ?_
                                  refine JL.q rfl rfl rfl (QW.eql (.tmp rfl) .const) ?_
                                  refine JL.q rfl rfl rfl (QW.assign (.tmp rfl)) ?_
                                  refine JL.nil ?_
                                  refine thenQ.n ?_
                                  refine J.cond (.tmp rfl) (fun c9 => ?_) (fun c9 => ?_)
                                  · try (exfalso; simp at *; omega; done)
                                    all_goals
                                      refine J.seq ?_
                                      refine J.region_lit ?_
                                      refine JL.q rfl rfl rfl (QW.build (idx := [0, 1, 2, 3]) pl71 z71 rfl (.cons .const (.cons .const (.cons .const (.cons .const .nil)))) rfl rfl rfl rfl) ?_
                                      first | refine JL.store_boxF 0 ty71 (.tmp rfl) rfl (.tmp rfl) (by first | rfl | assumption) (rfl) (rfl) rfl ?_ | refine JL.store_box 0 ty71 (.tmp rfl) rfl (.tmp rfl) (by first | rfl | assumption) rfl rfl rfl rfl ?_
                                      refine JL.q rfl rfl rfl (QW.assign .const) ?_
                                      refine JL.nil ?_
                                      refine thenQ.n ?_
                                      refine J.ret ?_
                                      refine blkQ.r ?_
                                      refine thenQ.r ?_
                                      exact ⟨_, [], _, RetEv.two rfl (REv.cell 0 ty71 rfl rfl rfl rfl (.refl _)) (REv.tmp rfl (.refl _)), rfl, List.Perm.refl _, shape_eq (by simp at *; unfold shLo shHi textLo textHi argsN; (repeat' split) <;> (try simp) <;> omega), rfl⟩
                                  · try (exfalso; simp at *; omega; done)
                                    all_goals
                                      refine J.seq ?_
                                      refine J.seq ?_
                                      refine J.region_lit ?_
                                      refine JL.q rfl rfl rfl (QW.eql (.tmp rfl) .const) ?_
                                      refine JL.q rfl rfl rfl (QW.assign (.tmp rfl)) ?_
                                      refine JL.nil ?_
                                      refine thenQ.n ?_
                                      refine J.cond (.tmp rfl) (fun c10 => ?_) (fun c10 => ?_)
                                      · try (exfalso; simp at *; omega; done)
                                        all_goals
                                          refine J.skip ?_
                                          refine thenQ.n ?_
                                          refine J.cond (.tmp rfl) (fun c11 => ?_) (fun c11 => ?_)
                                          · try (exfalso; simp at *; omega; done)
                                            all_goals
                                              refine J.seq ?_
                                              refine J.region_lit ?_
                                              refine JL.q rfl rfl rfl (QW.build (idx := [0, 1]) pl71 z71 rfl (.cons .const (.cons .const .nil)) rfl rfl rfl rfl) ?_
                                              first | refine JL.store_boxF 0 ty71 (.tmp rfl) rfl (.tmp rfl) (by first | rfl | assumption) (rfl) (rfl) rfl ?_ | refine JL.store_box 0 ty71 (.tmp rfl) rfl (.tmp rfl) (by first | rfl | assumption) rfl rfl rfl rfl ?_
                                              refine JL.q rfl rfl rfl (QW.assign .const) ?_
                                              refine JL.nil ?_
                                              refine thenQ.n ?_
                                              refine J.ret ?_
                                              refine blkQ.r ?_
                                              refine thenQ.r ?_
                                              exact ⟨_, [], _, RetEv.two rfl (REv.cell 0 ty71 rfl rfl rfl rfl (.refl _)) (REv.tmp rfl (.refl _)), rfl, List.Perm.refl _, shape_eq (by simp at *; unfold shLo shHi textLo textHi argsN; (repeat' split) <;> (try simp) <;> omega), rfl⟩
                                          · try (exfalso; simp at *; omega; done)
                                            all_goals
                                              refine J.seq ?_
                                              refine J.region_lit ?_
                                              refine JL.q rfl rfl rfl (QW.eql (.tmp rfl) .const) ?_
                                              refine JL.q rfl rfl rfl (QW.assign (.tmp rfl)) ?_
                                              refine JL.nil ?_
                                              refine thenQ.n ?_
                                              refine J.cond (.tmp rfl) (fun c12 => ?_) (fun c12 => ?_)
                                              · try (exfalso; simp at *; omega; done)
                                                all_goals
                                                  refine J.seq ?_
                                                  refine J.region_lit ?_
                                                  refine JL.q rfl rfl rfl (QW.build (idx := [0, 1]) pl71 z71 rfl (.cons .const (.cons .const .nil)) rfl rfl rfl rfl) ?_
                                                  first | refine JL.store_boxF 0 ty71 (.tmp rfl) rfl (.tmp rfl) (by first | rfl | assumption) (rfl) (rfl) rfl ?_ | refine JL.store_box 0 ty71 (.tmp rfl) rfl (.tmp rfl) (by first | rfl | assumption) rfl rfl rfl rfl ?_
                                                  refine JL.q rfl rfl rfl (QW.assign .const) ?_
                                                  refine JL.nil ?_
                                                  refine thenQ.n ?_
                                                  refine J.ret ?_
                                                  refine blkQ.r ?_
                                                  refine thenQ.r ?_
                                                  exact ⟨_, [], _, RetEv.two rfl (REv.cell 0 ty71 rfl rfl rfl rfl (.refl _)) (REv.tmp rfl (.refl _)), rfl, List.Perm.refl _, shape_eq (by simp at *; unfold shLo shHi textLo textHi argsN; (repeat' split) <;> (try simp) <;> omega), rfl⟩
                                              · try (exfalso; simp at *; omega; done)
                                                all_goals
                                                  refine J.seq ?_
                                                  refine J.region_lit ?_
                                                  refine JL.q rfl rfl rfl (QW.eql (.tmp rfl) .const) ?_
                                                  refine JL.q rfl rfl rfl (QW.assign (.tmp rfl)) ?_
                                                  refine JL.nil ?_
                                                  refine thenQ.n ?_
                                                  refine J.cond (.tmp rfl) (fun c13 => ?_) (fun c13 => ?_)
                                                  · try (exfalso; simp at *; omega; done)
                                                    all_goals
                                                      refine J.seq ?_
                                                      refine J.region_lit ?_
                                                      refine JL.q rfl rfl rfl (QW.build (idx := [1]) pl71 z71 rfl (.cons .const .nil) rfl rfl rfl rfl) ?_
                                                      first | refine JL.store_boxF 0 ty71 (.tmp rfl) rfl (.tmp rfl) (by first | rfl | assumption) (rfl) (rfl) rfl ?_ | refine JL.store_box 0 ty71 (.tmp rfl) rfl (.tmp rfl) (by first | rfl | assumption) rfl rfl rfl rfl ?_
                                                      refine JL.q rfl rfl rfl (QW.assign .const) ?_
                                                      refine JL.nil ?_
                                                      refine thenQ.n ?_
                                                      refine J.ret ?_
                                                      refine blkQ.r ?_
                                                      refine thenQ.r ?_
                                                      exact ⟨_, [], _, RetEv.two rfl (REv.cell 0 ty71 rfl rfl rfl rfl (.refl _)) (REv.tmp rfl (.refl _)), rfl, List.Perm.refl _, shape_eq (by simp at *; unfold shLo shHi textLo textHi argsN; (repeat' split) <;> (try simp) <;> omega), rfl⟩
                                                  · try (exfalso; simp at *; omega; done)
                                                    all_goals
                                                      refine J.skip ?_
                                                      refine blkQ.n ?_
                                                      refine thenQ.n ?_
                                                      refine J.seq ?_
                                                      refine J.region_lit ?_
                                                      refine JL.q rfl rfl rfl (QW.build (idx := [0, 1]) pl71 z71 rfl (.cons .const (.cons .const .nil)) rfl rfl rfl rfl) ?_
                                                      refine JL.q rfl rfl rfl (QW.move (.tmp rfl)) ?_
                                                      refine JL.q rfl rfl rfl (QW.gtr (.tmp rfl) .const) ?_
                                                      refine JL.q rfl rfl rfl (QW.move (.tmp rfl)) ?_
                                                      refine JL.g rfl rfl rfl rfl rfl (fun hg => (QW.move (.tmp rfl))) ?_
                                                      refine JL.g rfl rfl rfl rfl rfl (fun hg => (QW.leq (.when rfl hg) .const)) ?_
                                                      refine JL.q rfl rfl rfl (QW.pick_and (.tmp rfl) (.tmp rfl)) ?_
                                                      first | refine JL.store_boxF 0 ty71 (.tmp rfl) rfl (.tmp rfl) (by first | rfl | assumption) (rfl) (rfl) rfl ?_ | refine JL.store_box 0 ty71 (.tmp rfl) rfl (.tmp rfl) (by first | rfl | assumption) rfl rfl rfl rfl ?_
                                                      refine JL.q rfl rfl rfl (QW.assign (.tmp rfl)) ?_
                                                      refine JL.nil ?_
                                                      refine thenQ.n ?_
                                                      refine J.ret ?_
                                                      exact ⟨_, [], _, RetEv.two rfl (REv.cell 0 ty71 rfl rfl rfl rfl (.refl _)) (REv.tmp rfl (.refl _)), rfl, List.Perm.refl _, shape_eq (by simp at *; unfold shLo shHi textLo textHi argsN; (repeat' split) <;> (try simp) <;> omega), rfl⟩
                                      · try (exfalso; simp at *; omega; done)
                                        all_goals
                                          refine J.seq ?_
                                          refine J.region_lit ?_
                                          refine JL.q rfl rfl rfl (QW.eql (.tmp rfl) .const) ?_
                                          refine JL.q rfl rfl rfl (QW.assign (.tmp rfl)) ?_
                                          refine JL.nil ?_
                                          refine thenQ.n ?_
                                          refine J.cond (.tmp rfl) (fun c11 => ?_) (fun c11 => ?_)
                                          · try (exfalso; simp at *; omega; done)
                                            all_goals
                                              refine J.skip ?_
                                              refine thenQ.n ?_
                                              refine J.cond (.tmp rfl) (fun c12 => ?_) (fun c12 => ?_)
                                              · try (exfalso; simp at *; omega; done)
                                                all_goals
                                                  refine J.seq ?_
                                                  refine J.region_lit ?_
                                                  refine JL.q rfl rfl rfl (QW.build (idx := [0, 1]) pl71 z71 rfl (.cons .const (.cons .const .nil)) rfl rfl rfl rfl) ?_
                                                  first | refine JL.store_boxF 0 ty71 (.tmp rfl) rfl (.tmp rfl) (by first | rfl | assumption) (rfl) (rfl) rfl ?_ | refine JL.store_box 0 ty71 (.tmp rfl) rfl (.tmp rfl) (by first | rfl | assumption) rfl rfl rfl rfl ?_
                                                  refine JL.q rfl rfl rfl (QW.assign .const) ?_
                                                  refine JL.nil ?_
                                                  refine thenQ.n ?_
                                                  refine J.ret ?_
                                                  refine blkQ.r ?_
                                                  refine thenQ.r ?_
                                                  exact ⟨_, [], _, RetEv.two rfl (REv.cell 0 ty71 rfl rfl rfl rfl (.refl _)) (REv.tmp rfl (.refl _)), rfl, List.Perm.refl _, shape_eq (by simp at *; unfold shLo shHi textLo textHi argsN; (repeat' split) <;> (try simp) <;> omega), rfl⟩
                                              · try (exfalso; simp at *; omega; done)
                                                all_goals
                                                  refine J.seq ?_
                                                  refine J.region_lit ?_
                                                  refine JL.q rfl rfl rfl (QW.eql (.tmp rfl) .const) ?_
                                                  refine JL.q rfl rfl rfl (QW.assign (.tmp rfl)) ?_
                                                  refine JL.nil ?_
                                                  refine thenQ.n ?_
                                                  refine J.cond (.tmp rfl) (fun c13 => ?_) (fun c13 => ?_)
                                                  · try (exfalso; simp at *; omega; done)
                                                    all_goals
                                                      refine J.seq ?_
                                                      refine J.region_lit ?_
                                                      refine JL.q rfl rfl rfl (QW.build (idx := [0, 1]) pl71 z71 rfl (.cons .const (.cons .const .nil)) rfl rfl rfl rfl) ?_
                                                      first | refine JL.store_boxF 0 ty71 (.tmp rfl) rfl (.tmp rfl) (by first | rfl | assumption) (rfl) (rfl) rfl ?_ | refine JL.store_box 0 ty71 (.tmp rfl) rfl (.tmp rfl) (by first | rfl | assumption) rfl rfl rfl rfl ?_
                                                      refine JL.q rfl rfl rfl (QW.assign .const) ?_
                                                      refine JL.nil ?_
                                                      refine thenQ.n ?_
                                                      refine J.ret ?_
                                                      refine blkQ.r ?_
                                                      refine thenQ.r ?_
                                                      exact ⟨_, [], _, RetEv.two rfl (REv.cell 0 ty71 rfl rfl rfl rfl (.refl _)) (REv.tmp rfl (.refl _)), rfl, List.Perm.refl _, shape_eq (by simp at *; unfold shLo shHi textLo textHi argsN; (repeat' split) <;> (try simp) <;> omega), rfl⟩
                                                  · try (exfalso; simp at *; omega; done)
                                                    all_goals
                                                      refine J.seq ?_
                                                      refine J.region_lit ?_
                                                      refine JL.q rfl rfl rfl (QW.eql (.tmp rfl) .const) ?_
                                                      refine JL.q rfl rfl rfl (QW.assign (.tmp rfl)) ?_
                                                      refine JL.nil ?_
                                                      refine thenQ.n ?_
                                                      refine J.cond (.tmp rfl) (fun c14 => ?_) (fun c14 => ?_)
                                                      · try (exfalso; simp at *; omega; done)
                                                        all_goals
                                                          refine J.seq ?_
                                                          refine J.region_lit ?_
                                                          refine JL.q rfl rfl rfl (QW.build (idx := [1]) pl71 z71 rfl (.cons .const .nil) rfl rfl rfl rfl) ?_
                                                          first | refine JL.store_boxF 0 ty71 (.tmp rfl) rfl (.tmp rfl) (by first | rfl | assumption) (rfl) (rfl) rfl ?_ | refine JL.store_box 0 ty71 (.tmp rfl) rfl (.tmp rfl) (by first | rfl | assumption) rfl rfl rfl rfl ?_
                                                          refine JL.q rfl rfl rfl (QW.assign .const) ?_
                                                          refine JL.nil ?_
                                                          refine thenQ.n ?_
                                                          refine J.ret ?_
                                                          refine blkQ.r ?_
                                                          refine thenQ.r ?_
                                                          exact ⟨_, [], _, RetEv.two rfl (REv.cell 0 ty71 rfl rfl rfl rfl (.refl _)) (REv.tmp rfl (.refl _)), rfl, List.Perm.refl _, shape_eq (by simp at *; unfold shLo shHi textLo textHi argsN; (repeat' split) <;> (try simp) <;> omega), rfl⟩
                                                      · try (exfalso; simp at *; omega; done)
                                                        all_goals
                                                          refine J.skip ?_
                                                          refine blkQ.n ?_
                                                          refine thenQ.n ?_
                                                          refine J.seq ?_
                                                          refine J.region_lit ?_
                                                          refine JL.q rfl rfl rfl (QW.build (idx := [0, 1]) pl71 z71 rfl (.cons .const (.cons .const .nil)) rfl rfl rfl rfl) ?_
                                                          refine JL.q rfl rfl rfl (QW.move (.tmp rfl)) ?_
                                                          refine JL.q rfl rfl rfl (QW.gtr (.tmp rfl) .const) ?_
                                                          refine JL.q rfl rfl rfl (QW.move (.tmp rfl)) ?_
                                                          refine JL.g rfl rfl rfl rfl rfl (fun hg => (QW.move (.tmp rfl))) ?_
                                                          refine JL.g rfl rfl rfl rfl rfl (fun hg => (QW.leq (.when rfl hg) .const)) ?_
                                                          refine JL.q rfl rfl rfl (QW.pick_and (.tmp rfl) (.tmp rfl)) ?_
                                                          first | refine JL.store_boxF 0 ty71 (.tmp rfl) rfl (.tmp rfl) (by first | rfl | assumption) (rfl) (rfl) rfl ?_ | refine JL.store_box 0 ty71 (.tmp rfl) rfl (.tmp rfl) (by first | rfl | assumption) rfl rfl rfl rfl ?_
                                                          refine JL.q rfl rfl rfl (QW.assign (.tmp rfl)) ?_
                                                          refine JL.nil ?_
                                                          refine thenQ.n ?_
                                                          refine J.ret ?_
                                                          exact ⟨_, [], _, RetEv.two rfl (REv.cell 0 ty71 rfl rfl rfl rfl (.refl _)) (REv.tmp rfl (.refl _)), rfl, List.Perm.refl _, shape_eq (by simp at *; unfold shLo shHi textLo textHi argsN; (repeat' split) <;> (try simp) <;> omega), rfl⟩
                                          · try (exfalso; simp at *; omega; done)
                                            all_goals
                                              refine J.seq ?_
                                              refine J.region_lit ?_
                                              refine JL.q rfl rfl rfl (QW.eql (.tmp rfl) .const) ?_
                                              refine JL.q rfl rfl rfl (QW.assign (.tmp rfl)) ?_
                                              refine JL.nil ?_
                                              refine thenQ.n ?_
                                              refine J.cond (.tmp rfl) (fun c12 => ?_) (fun c12 => ?_)
                                              · try (exfalso; simp at *; omega; done)
                                                all_goals
                                                  refine J.skip ?_
                                                  refine thenQ.n ?_
                                                  refine J.cond (.tmp rfl) (fun c13 => ?_) (fun c13 => ?_)
                                                  · try (exfalso; simp at *; omega; done)
                                                    all_goals
                                                      refine J.seq ?_
                                                      refine J.region_lit ?_
                                                      refine JL.q rfl rfl rfl (QW.build (idx := [0, 1]) pl71 z71 rfl (.cons .const (.cons .const .nil)) rfl rfl rfl rfl) ?_
                                                      first | refine JL.store_boxF 0 ty71 (.tmp rfl) rfl (.tmp rfl) (by first | rfl | assumption) (rfl) (rfl) rfl ?_ | refine JL.store_box 0 ty71 (.tmp rfl) rfl (.tmp rfl) (by first | rfl | assumption) rfl rfl rfl rfl ?_
                                                      refine JL.q rfl rfl rfl (QW.assign .const) ?_
                                                      refine JL.nil ?_
                                                      refine thenQ.n ?_
                                                      refine J.ret ?_
                                                      refine blkQ.r ?_
                                                      refine thenQ.r ?_
                                                      exact ⟨_, [], _, RetEv.two rfl (REv.cell 0 ty71 rfl rfl rfl rfl (.refl _)) (REv.tmp rfl (.refl _)), rfl, List.Perm.refl _, shape_eq (by simp at *; unfold shLo shHi textLo textHi argsN; (repeat' split) <;> (try simp) <;> omega), rfl⟩
                                                  · try (exfalso; simp at *; omega; done)
                                                    all_goals
                                                      refine J.seq ?_
                                                      refine J.region_lit ?_
                                                      refine JL.q rfl rfl rfl (QW.eql (.tmp rfl) .const) ?_
                                                      refine JL.q rfl rfl rfl (QW.assign (.tmp rfl)) ?_
                                                      refine JL.nil ?_
                                                      refine thenQ.n ?_
                                                      refine J.cond (.tmp rfl) (fun c14 => ?_) (fun c14 => ?_)
                                                      · try (exfalso; simp at *; omega; done)
                                                        all_goals
                                                          refine J.seq ?_
                                                          refine J.region_lit ?_
                                                          refine JL.q rfl rfl rfl (QW.build (idx := [0, 1]) pl71 z71 rfl (.cons .const (.cons .const .nil)) rfl rfl rfl rfl) ?_
                                                          first | refine JL.store_boxF 0 ty71 (.tmp rfl) rfl (.tmp rfl) (by first | rfl | assumption) (rfl) (rfl) rfl ?_ | refine JL.store_box 0 ty71 (.tmp rfl) rfl (.tmp rfl) (by first | rfl | assumption) rfl rfl rfl rfl ?_
                                                          refine JL.q rfl rfl rfl (QW.assign .const) ?_
                                                          refine JL.nil ?_
                                                          refine thenQ.n ?_
                                                          refine J.ret ?_
                                                          refine blkQ.r ?_
                                                          refine thenQ.r ?_
                                                          exact ⟨_, [], _, RetEv.two rfl (REv.cell 0 ty71 rfl rfl rfl rfl (.refl _)) (REv.tmp rfl (.refl _)), rfl, List.Perm.refl _, shape_eq (by simp at *; unfold shLo shHi textLo textHi argsN; (repeat' split) <;> (try simp) <;> omega), rfl⟩
                                                      · try (exfalso; simp at *; omega; done)
                                                        all_goals
                                                          refine J.seq ?_
                                                          refine J.region_lit ?_
                                                          refine JL.q rfl rfl rfl (QW.eql (.tmp rfl) .const) ?_
                                                          refine JL.q rfl rfl rfl (QW.assign (.tmp rfl)) ?_
                                                          refine JL.nil ?_
                                                          refine thenQ.n ?_
                                                          refine J.cond (.tmp rfl) (fun c15 => ?_) (fun c15 => ?_)
                                                          · try (exfalso; simp at *; omega; done)
                                                            all_goals
                                                              refine J.seq ?_
                                                              refine J.region_lit ?_
                                                              refine JL.q rfl rfl rfl (QW.build (idx := [1]) pl71 z71 rfl (.cons .const .nil) rfl rfl rfl rfl) ?_
                                                              first | refine JL.store_boxF 0 ty71 (.tmp rfl) rfl (.tmp rfl) (by first | rfl | assumption) (rfl) (rfl) rfl ?_ | refine JL.store_box 0 ty71 (.tmp rfl) rfl (.tmp rfl) (by first | rfl | assumption) rfl rfl rfl rfl ?_
                                                              refine JL.q rfl rfl rfl (QW.assign .const) ?_
                                                              refine JL.nil ?_
                                                              refine thenQ.n ?_
                                                              refine J.ret ?_
                                                              refine blkQ.r ?_
                                                              refine thenQ.r ?_
                                                              exact ⟨_, [], _, RetEv.two rfl (REv.cell 0 ty71 rfl rfl rfl rfl (.refl _)) (REv.tmp rfl (.refl _)), rfl, List.Perm.refl _, shape_eq (by simp at *; unfold shLo shHi textLo textHi argsN; (repeat' split) <;> (try simp) <;> omega), rfl⟩
                                                          · try (exfalso; simp at *; omega; done)
                                                            all_goals
                                                              refine J.skip ?_
                                                              refine blkQ.n ?_
                                                              refine thenQ.n ?_
                                                              refine J.seq ?_
                                                              refine J.region_lit ?_
                                                              refine JL.q rfl rfl rfl (QW.build (idx := [0, 1]) pl71 z71 rfl (.cons .const (.cons .const .nil)) rfl rfl rfl rfl) ?_
                                                              refine JL.q rfl rfl rfl (QW.move (.tmp rfl)) ?_
                                                              refine JL.q rfl rfl rfl (QW.gtr (.tmp rfl) .const) ?_
                                                              refine JL.q rfl rfl rfl (QW.move (.tmp rfl)) ?_
                                                              refine JL.g rfl rfl rfl rfl rfl (fun hg => (QW.move (.tmp rfl))) ?_
                                                              refine JL.g rfl rfl rfl rfl rfl (fun hg => (QW.leq (.when rfl hg) .const)) ?_
                                                              refine JL.q rfl rfl rfl (QW.pick_and (.tmp rfl) (.tmp rfl)) ?_
                                                              first | refine JL.store_boxF 0 ty71 (.tmp rfl) rfl (.tmp rfl) (by first | rfl | assumption) (rfl) (rfl) rfl ?_ | refine JL.store_box 0 ty71 (.tmp rfl) rfl (.tmp rfl) (by first | rfl | assumption) rfl rfl rfl rfl ?_
                                                              refine JL.q rfl rfl rfl (QW.assign (.tmp rfl)) ?_
                                                              refine JL.nil ?_
                                                              refine thenQ.n ?_
                                                              refine J.ret ?_
                                                              exact ⟨_, [], _, RetEv.two rfl (REv.cell 0 ty71 rfl rfl rfl rfl (.refl _)) (REv.tmp rfl (.refl _)), rfl, List.Perm.refl _, shape_eq (by simp at *; unfold shLo shHi textLo textHi argsN; (repeat' split) <;> (try simp) <;> omega), rfl⟩
                                              · try (exfalso; simp at *; omega; done)
                                                all_goals
                                                  refine J.region_lit ?_
                                                  refine JL.q rfl rfl rfl (QW.eql (.tmp rfl) .const) ?_
                                                  refine JL.q rfl rfl rfl (QW.assign (.tmp rfl)) ?_
                                                  refine JL.nil ?_
                                                  refine thenQ.n ?_
                                                  refine J.cond (.tmp rfl) (fun c13 => ?_) (fun c13 => ?_)
                                                  · try (exfalso; simp at *; omega; done)
                                                    all_goals
                                                      refine J.seq ?_
                                                      refine J.region_lit ?_
                                                      refine JL.q rfl rfl rfl (QW.build (idx := [0, 1]) pl71 z71 rfl (.cons .const (.cons .const .nil)) rfl rfl rfl rfl) ?_
                                                      first | refine JL.store_boxF 0 ty71 (.tmp rfl) rfl (.tmp rfl) (by first | rfl | assumption) (rfl) (rfl) rfl ?_ | refine JL.store_box 0 ty71 (.tmp rfl) rfl (.tmp rfl) (by first | rfl | assumption) rfl rfl rfl rfl ?_
                                                      refine JL.q rfl rfl rfl (QW.assign .const) ?_
                                                      refine JL.nil ?_
                                                      refine thenQ.n ?_
                                                      refine J.ret ?_
                                                      refine blkQ.r ?_
                                                      refine thenQ.r ?_
                                                      exact ⟨_, [], _, RetEv.two rfl (REv.cell 0 ty71 rfl rfl rfl rfl (.refl _)) (REv.tmp rfl (.refl _)), rfl, List.Perm.refl _, shape_eq (by simp at *; unfold shLo shHi textLo textHi argsN; (repeat' split) <;> (try simp) <;> omega), rfl⟩
                                                  · try (exfalso; simp at *; omega; done)
                                                    all_goals
                                                      refine J.seq ?_
                                                      refine J.region_lit ?_
                                                      refine JL.q rfl rfl rfl (QW.eql (.tmp rfl) .const) ?_
                                                      refine JL.q rfl rfl rfl (QW.assign (.tmp rfl)) ?_
                                                      refine JL.nil ?_
                                                      refine thenQ.n ?_
                                                      refine J.cond (.tmp rfl) (fun c14 => ?_) (fun c14 => ?_)
                                                      · try (exfalso; simp at *; omega; done)
                                                        all_goals
                                                          refine J.seq ?_
                                                          refine J.region_lit ?_
                                                          refine JL.q rfl rfl rfl (QW.build (idx := [0, 1]) pl71 z71 rfl (.cons .const (.cons .const .nil)) rfl rfl rfl rfl) ?_
                                                          first | refine JL.store_boxF 0 ty71 (.tmp rfl) rfl (.tmp rfl) (by first | rfl | assumption) (rfl) (rfl) rfl ?_ | refine JL.store_box 0 ty71 (.tmp rfl) rfl (.tmp rfl) (by first | rfl | assumption) rfl rfl rfl rfl ?_
                                                          refine JL.q rfl rfl rfl (QW.assign .const) ?_
                                                          refine JL.nil ?_
                                                          refine thenQ.n ?_
                                                          refine J.ret ?_
                                                          refine blkQ.r ?_
                                                          refine thenQ.r ?_
                                                          exact ⟨_, [], _, RetEv.two rfl (REv.cell 0 ty71 rfl rfl rfl rfl (.refl _)) (REv.tmp rfl (.refl _)), rfl, List.Perm.refl _, shape_eq (by simp at *; unfold shLo shHi textLo textHi argsN; (repeat' split) <;> (try simp) <;> omega), rfl⟩
                                                      · try (exfalso; simp at *; omega; done)
                                                        all_goals
                                                          refine J.seq ?_
                                                          refine J.region_lit ?_
                                                          refine JL.q rfl rfl rfl (QW.eql (.tmp rfl) .const) ?_
                                                          refine JL.q rfl rfl rfl (QW.assign (.tmp rfl)) ?_
                                                          refine JL.nil ?_
                                                          refine thenQ.n ?_
                                                          refine J.cond (.tmp rfl) (fun c15 => ?_) (fun c15 => ?_)
                                                          · try (exfalso; simp at *; omega; done)
                                                            all_goals
                                                              refine J.seq ?_
                                                              refine J.region_lit ?_
                                                              refine JL.q rfl rfl rfl (QW.build (idx := [1]) pl71 z71 rfl (.cons .const .nil) rfl rfl rfl rfl) ?_
                                                              first | refine JL.store_boxF 0 ty71 (.tmp rfl) rfl (.tmp rfl) (by first | rfl | assumption) (rfl) (rfl) rfl ?_ | refine JL.store_box 0 ty71 (.tmp rfl) rfl (.tmp rfl) (by first | rfl | assumption) rfl rfl rfl rfl ?_
                                                              refine JL.q rfl rfl rfl (QW.assign .const) ?_
                                                              refine JL.nil ?_
                                                              refine thenQ.n ?_
                                                              refine J.ret ?_
                                                              refine blkQ.r ?_
                                                              refine thenQ.r ?_
                                                              exact ⟨_, [], _, RetEv.two rfl (REv.cell 0 ty71 rfl rfl rfl rfl (.refl _)) (REv.tmp rfl (.refl _)), rfl, List.Perm.refl _, shape_eq (by simp at *; unfold shLo shHi textLo textHi argsN; (repeat' split) <;> (try simp) <;> omega), rfl⟩
                                                          · try (exfalso; simp at *; omega; done)
                                                            all_goals
                                                              refine J.skip ?_
                                                              refine blkQ.n ?_
                                                              refine thenQ.n ?_
                                                              refine J.seq ?_
                                                              refine J.region_lit ?_
                                                              refine JL.q rfl rfl rfl (QW.build (idx := [0, 1]) pl71 z71 rfl (.cons .const (.cons .const .nil)) rfl rfl rfl rfl) ?_
                                                              refine JL.q rfl rfl rfl (QW.move (.tmp rfl)) ?_
                                                              refine JL.q rfl rfl rfl (QW.gtr (.tmp rfl) .const) ?_
                                                              refine JL.q rfl rfl rfl (QW.move (.tmp rfl)) ?_
                                                              refine JL.g rfl rfl rfl rfl rfl (fun hg => (QW.move (.tmp rfl))) ?_
                                                              refine JL.g rfl rfl rfl rfl rfl (fun hg => (QW.leq (.when rfl hg) .const)) ?_
                                                              refine JL.q rfl rfl rfl (QW.pick_and (.tmp rfl) (.tmp rfl)) ?_
                                                              first | refine JL.store_boxF 0 ty71 (.tmp rfl) rfl (.tmp rfl) (by first | rfl | assumption) (rfl) (rfl) rfl ?_ | refine JL.store_box 0 ty71 (.tmp rfl) rfl (.tmp rfl) (by first | rfl | assumption) rfl rfl rfl rfl ?_
                                                              refine JL.q rfl rfl rfl (QW.assign (.tmp rfl)) ?_
                                                              refine JL.nil ?_
                                                              refine thenQ.n ?_
                                                              refine J.ret ?_
                                                              exact ⟨_, [], _, RetEv.two rfl (REv.cell 0 ty71 rfl rfl rfl rfl (.refl _)) (REv.tmp rfl (.refl _)), rfl, List.Perm.refl _, shape_eq (by simp at *; unfold shLo shHi textLo textHi argsN; (repeat' split) <;> (try simp) <;> omega), rfl⟩
                  · try (exfalso; simp at *; omega; done)
                    all_goals
                      refine J.seq ?_
                      refine J.region_lit ?_
                      refine JL.q rfl rfl rfl (QW.eql (.tmp rfl) .const) ?_
                      refine JL.q rfl rfl rfl (QW.assign (.tmp rfl)) ?_
                      refine JL.nil ?_
                      refine thenQ.n ?_
                      refine J.cond (.tmp rfl) (fun c6 => ?_) (fun c6 => ?_)
                      · try (exfalso; simp at *; omega; done)
                        all_goals
                          refine J.skip ?_
                          refine thenQ.n ?_
                          refine J.cond (.tmp rfl) (fun c7 => ?_) (fun c7 => ?_)
                          · try (exfalso; simp at *; omega; done)
                            all_goals
                              refine J.seq ?_
                              refine J.region_lit ?_
                              refine JL.q rfl rfl rfl (QW.build (idx := []) pl71 z71 rfl .nil rfl rfl rfl rfl) ?_
                              first | refine JL.store_boxF 0 ty71 (.tmp rfl) rfl (.tmp rfl) (by first | rfl | assumption) (rfl) (rfl) rfl ?_ | refine JL.store_box 0 ty71 (.tmp rfl) rfl (.tmp rfl) (by first | rfl | assumption) rfl rfl rfl rfl ?_
                              refine JL.q rfl rfl rfl (QW.assign .const) ?_
                              refine JL.nil ?_
                              refine thenQ.n ?_
                              refine J.ret ?_
                              refine blkQ.r ?_
                              refine thenQ.r ?_
                              exact ⟨_, [], _, RetEv.two rfl (REv.cell 0 ty71 rfl rfl rfl rfl (.refl _)) (REv.tmp rfl (.refl _)), rfl, List.Perm.refl _, shape_eq (by simp at *; unfold shLo shHi textLo textHi argsN; (repeat' split) <;> (try simp) <;> omega), rfl⟩
                          · try (exfalso; simp at *; omega; done)
                            all_goals
                              refine J.seq ?_
                              refine J.region_lit ?_
                              refine JL.q rfl rfl rfl (QW.eql (.tmp rfl) .const) ?_
                              refine JL.q rfl rfl rfl (QW.assign (.tmp rfl)) ?_
                              refine JL.nil ?_
                              refine thenQ.n ?_
                              refine J.cond (.tmp rfl) (fun c8 => ?_) (fun c8 => ?_)
                              · try (exfalso; simp at *; omega; done)
                                all_goals
                                  refine J.seq ?_
                                  refine J.region_lit ?_
                                  refine JL.q rfl rfl rfl (QW.build (idx := [3]) pl71 z71 rfl (.cons .const .nil) rfl rfl rfl rfl) ?_
                                  first | refine JL.store_boxF 0 ty71 (.tmp rfl) rfl (.tmp rfl) (by first | rfl | assumption) (rfl) (rfl) rfl ?_ | refine JL.store_box 0 ty71 (.tmp rfl) rfl (.tmp rfl) (by first | rfl | assumption) rfl rfl rfl rfl ?_
                                  refine JL.q rfl rfl rfl (QW.assign .const) ?_
                                  refine JL.nil ?_
                                  refine thenQ.n ?_
                                  refine J.ret ?_
                                  refine blkQ.r ?_
                                  refine thenQ.r ?_
                                  exact ⟨_, [], _, RetEv.two rfl (REv.cell 0 ty71 rfl rfl rfl rfl (.refl _)) (REv.tmp rfl (.refl _)), rfl, List.Perm.refl _, shape_eq (by simp at *; unfold shLo shHi textLo textHi argsN; (repeat' split) <;> (try simp) <;> omega), rfl⟩
                              · try (exfalso; simp at *; omega; done)
                                all_goals
                                  refine J.seq ?_
                                  refine J.region_lit ?_
                                  refine JL.q rfl rfl rfl (QW.eql (.tmp rfl) .const) ?_
                                  refine JL.q rfl rfl rfl (QW.assign (.tmp rfl)) ?_
                                  refine JL.nil ?_
                                  refine thenQ.n ?_
                                  refine J.cond (.tmp rfl) (fun c9 => ?_) (fun c9 => ?_)
                                  · try (exfalso; simp at *; omega; done)
                                    all_goals
                                      refine J.seq ?_
                                      refine J.region_lit ?_
                                      refine JL.q rfl rfl rfl (QW.build (idx := [0, 1, 2, 3]) pl71 z71 rfl (.cons .const (.cons .const (.cons .const (.cons .const .nil)))) rfl rfl rfl rfl) ?_
                                      first | refine JL.store_boxF 0 ty71 (.tmp rfl) rfl (.tmp rfl) (by first | rfl | assumption) (rfl) (rfl) rfl ?_ | refine JL.store_box 0 ty71 (.tmp rfl) rfl (.tmp rfl) (by first | rfl | assumption) rfl rfl rfl rfl ?_
                                      refine JL.q rfl rfl rfl (QW.assign .const) ?_
                                      refine JL.nil ?_
                                      refine thenQ.n ?_
                                      refine J.ret ?_
                                      refine blkQ.r ?_
                                      refine thenQ.r ?_
                                      exact ⟨_, [], _, RetEv.two rfl (REv.cell 0 ty71 rfl rfl rfl rfl (.refl _)) (REv.tmp rfl (.refl _)), rfl, List.Perm.refl _, shape_eq (by simp at *; unfold shLo shHi textLo textHi argsN; (repeat' split) <;> (try simp) <;> omega), rfl⟩
                                  · try (exfalso; simp at *; omega; done)
                                    all_goals
                                      refine J.seq ?_
                                      refine J.region_lit ?_
                                      refine JL.q rfl rfl rfl (QW.eql (.tmp rfl) .const) ?_
                                      refine JL.q rfl rfl rfl (QW.assign (.tmp rfl)) ?_
                                      refine JL.nil ?_
                                      refine thenQ.n ?_
                                      refine J.cond (.tmp rfl) (fun c10 => ?_) (fun c10 => ?_)
                                      · try (exfalso; simp at *; omega; done)
                                        all_goals
                                          refine J.seq ?_
                                          refine J.region_lit ?_
                                          refine JL.q rfl rfl rfl (QW.build (idx := [0, 1, 2, 3]) pl71 z71 rfl (.cons .const (.cons .const (.cons .const (.cons .const .nil)))) rfl rfl rfl rfl) ?_
                                          first | refine JL.store_boxF 0 ty71 (.tmp rfl) rfl (.tmp rfl) (by first | rfl | assumption) (rfl) (rfl) rfl ?_ | refine JL.store_box 0 ty71 (.tmp rfl) rfl (.tmp rfl) (by first | rfl | assumption) rfl rfl rfl rfl ?_
                                          refine JL.q rfl rfl rfl (QW.assign .const) ?_
                                          refine JL.nil ?_
                                          refine thenQ.n ?_
                                          refine J.ret ?_
                                          refine blkQ.r ?_
                                          refine thenQ.r ?_
                                          exact ⟨_, [], _, RetEv.two rfl (REv.cell 0 ty71 rfl rfl rfl rfl (.refl _)) (REv.tmp rfl (.refl _)), rfl, List.Perm.refl _, shape_eq (by simp at *; unfold shLo shHi textLo textHi argsN; (repeat' split) <;> (try simp) <;> omega), rfl⟩
                                      · try (exfalso; simp at *; omega; done)
                                        all_goals
                                          refine J.seq ?_
                                          refine J.seq ?_
                                          refine J.region_lit ?_
                                          refine JL.q rfl rfl rfl (QW.eql (.tmp rfl) .const) ?_
                                          refine JL.q rfl rfl rfl (QW.assign (.tmp rfl)) ?_
                                          refine JL.nil ?_
                                          refine thenQ.n ?_
                                          refine J.cond (.tmp rfl) (fun c11 => ?_) (fun c11 => ?_)
                                          · try (exfalso; simp at *; omega; done)
                                            all_goals
                                              refine J.skip ?_
                                              refine thenQ.n ?_
                                              refine J.cond (.tmp rfl) (fun c12 => ?_) (fun c12 => ?_)
                                              · try (exfalso; simp at *; omega; done)
                                                all_goals
                                                  refine J.seq ?_
                                                  refine J.region_lit ?_
                                                  refine JL.q rfl rfl rfl (QW.build (idx := [0, 1]) pl71 z71 rfl (.cons .const (.cons .const .nil)) rfl rfl rfl rfl) ?_
                                                  first | refine JL.store_boxF 0 ty71 (.tmp rfl) rfl (.tmp rfl) (by first | rfl | assumption) (rfl) (rfl) rfl ?_ | refine JL.store_box 0 ty71 (.tmp rfl) rfl (.tmp rfl) (by first | rfl | assumption) rfl rfl rfl rfl ?_
                                                  refine JL.q rfl rfl rfl (QW.assign .const) ?_
                                                  refine JL.nil ?_
                                                  refine thenQ.n ?_
                                                  refine J.ret ?_
                                                  refine blkQ.r ?_
                                                  refine thenQ.r ?_
                                                  exact ⟨_, [], _, RetEv.two rfl (REv.cell 0 ty71 rfl rfl rfl rfl (.refl _)) (REv.tmp rfl (.refl _)), rfl, List.Perm.refl _, shape_eq (by simp at *; unfold shLo shHi textLo textHi argsN; (repeat' split) <;> (try simp) <;> omega), rfl⟩
                                              · try (exfalso; simp at *; omega; done)
                                                all_goals
                                                  refine J.seq ?_
                                                  refine J.region_lit ?_
                                                  refine JL.q rfl rfl rfl (QW.eql (.tmp rfl) .const) ?_
                                                  refine JL.q rfl rfl rfl (QW.assign (.tmp rfl)) ?_
                                                  refine JL.nil ?_
                                                  refine thenQ.n ?_
                                                  refine J.cond (.tmp rfl) (fun c13 => ?_) (fun c13 => ?_)
                                                  · try (exfalso; simp at *; omega; done)
                                                    all_goals
                                                      refine J.seq ?_
                                                      refine J.region_lit ?_
                                                      refine JL.q rfl rfl rfl (QW.build (idx := [0, 1]) pl71 z71 rfl (.cons .const (.cons .const .nil)) rfl rfl rfl rfl) ?_
                                                      first | refine JL.store_boxF 0 ty71 (.tmp rfl) rfl (.tmp rfl) (by first | rfl | assumption) (rfl) (rfl) rfl ?_ | refine JL.store_box 0 ty71 (.tmp rfl) rfl (.tmp rfl) (by first | rfl | assumption) rfl rfl rfl rfl ?_
                                                      refine JL.q rfl rfl rfl (QW.assign .const) ?_
                                                      refine JL.nil ?_
                                                      refine thenQ.n ?_
                                                      refine J.ret ?_
                                                      refine blkQ.r ?_
                                                      refine thenQ.r ?_
                                                      exact ⟨_, [], _, RetEv.two rfl (REv.cell 0 ty71 rfl rfl rfl rfl (.refl _)) (REv.tmp rfl (.refl _)), rfl, List.Perm.refl _, shape_eq (by simp at *; unfold shLo shHi textLo textHi argsN; (repeat' split) <;> (try simp) <;> omega), rfl⟩
                                                  · try (exfalso; simp at *; omega; done)
                                                    all_goals
                                                      refine J.seq ?_
                                                      refine J.region_lit ?_
                                                      refine JL.q rfl rfl rfl (QW.eql (.tmp rfl) .const) ?_
                                                      refine JL.q rfl rfl rfl (QW.assign (.tmp rfl)) ?_
                                                      refine JL.nil ?_
                                                      refine thenQ.n ?_
                                                      refine J.cond (.tmp rfl) (fun c14 => ?_) (fun c14 => ?_)
                                                      · try (exfalso; simp at *; omega; done)
                                                        all_goals
                                                          refine J.seq ?_
                                                          refine J.region_lit ?_
                                                          refine JL.q rfl rfl rfl (QW.build (idx := [1]) pl71 z71 rfl (.cons .const .nil) rfl rfl rfl rfl) ?_
                                                          first | refine JL.store_boxF 0 ty71 (.tmp rfl) rfl (.tmp rfl) (by first | rfl | assumption) (rfl) (rfl) rfl ?_ | refine JL.store_box 0 ty71 (.tmp rfl) rfl (.tmp rfl) (by first | rfl | assumption) rfl rfl rfl rfl ?_
                                                          refine JL.q rfl rfl rfl (QW.assign .const) ?_
                                                          refine JL.nil ?_
                                                          refine thenQ.n ?_
                                                          refine J.ret ?_
                                                          refine blkQ.r ?_
                                                          refine thenQ.r ?_
                                                          exact ⟨_, [], _, RetEv.two rfl (REv.cell 0 ty71 rfl rfl rfl rfl (.refl _)) (REv.tmp rfl (.refl _)), rfl, List.Perm.refl _, shape_eq (by simp at *; unfold shLo shHi textLo textHi argsN; (repeat' split) <;> (try simp) <;> omega), rfl⟩
                                                      · try (exfalso; simp at *; omega; done)
                                                        all_goals
                                                          refine J.skip ?_
                                                          refine blkQ.n ?_
                                                          refine thenQ.n ?_
                                                          refine J.seq ?_
                                                          refine J.region_lit ?_
                                                          refine JL.q rfl rfl rfl (QW.build (idx := [0, 1]) pl71 z71 rfl (.cons .const (.cons .const .nil)) rfl rfl rfl rfl) ?_
                                                          refine JL.q rfl rfl rfl (QW.move (.tmp rfl)) ?_
                                                          refine JL.q rfl rfl rfl (QW.gtr (.tmp rfl) .const) ?_
                                                          refine JL.q rfl rfl rfl (QW.move (.tmp rfl)) ?_
                                                          refine JL.g rfl rfl rfl rfl rfl (fun hg => (QW.move (.tmp rfl))) ?_
                                                          refine JL.g rfl rfl rfl rfl rfl (fun hg => (QW.leq (.when rfl hg) .const)) ?_
                                                          refine JL.q rfl rfl rfl (QW.pick_and (.tmp rfl) (.tmp rfl)) ?_
                                                          first | refine JL.store_boxF 0 ty71 (.tmp rfl) rfl (.tmp rfl) (by first | rfl | assumption) (rfl) (rfl) rfl ?_ | refine JL.store_box 0 ty71 (.tmp rfl) rfl (.tmp rfl) (by first | rfl | assumption) rfl rfl rfl rfl ?_
                                                          refine JL.q rfl rfl rfl (QW.assign (.tmp rfl)) ?_
                                                          refine JL.nil ?_
                                                          refine thenQ.n ?_
                                                          refine J.ret ?_
                                                          exact ⟨_, [], _, RetEv.two rfl (REv.cell 0 ty71 rfl rfl rfl rfl (.refl _)) (REv.tmp rfl (.refl _)), rfl, List.Perm.refl _, shape_eq (by simp at *; unfold shLo shHi textLo textHi argsN; (repeat' split) <;> (try simp) <;> omega), rfl⟩
                                          · try (exfalso; simp at *; omega; done)
                                            all_goals
                                              refine J.seq ?_
                                              refine J.region_lit ?_
                                              refine JL.q rfl rfl rfl (QW.eql (.tmp rfl) .const) ?_
                                              refine JL.q rfl rfl rfl (QW.assign (.tmp rfl)) ?_
                                              refine JL.nil ?_
                                              refine thenQ.n ?_
                                              refine J.cond (.tmp rfl) (fun c12 => ?_) (fun c12 => ?_)
                                              · try (exfalso; simp at *; omega; done)
                                                all_goals
                                                  refine J.skip ?_
                                                  refine thenQ.n ?_
                                                  refine J.cond (.tmp rfl) (fun c13 => ?_) (fun c13 => ?_)
                                                  · try (exfalso; simp at *; omega; done)
                                                    all_goals
                                                      refine J.seq ?_
                                                      refine J.region_lit ?_
                                                      refine JL.q rfl rfl rfl (QW.build (idx := [0, 1]) pl71 z71 rfl (.cons .const (.cons .const .nil)) rfl rfl rfl rfl) ?_
                                                      first | refine JL.store_boxF 0 ty71 (.tmp rfl) rfl (.tmp rfl) (by first | rfl | assumption) (rfl) (rfl) rfl ?_ | refine JL.store_box 0 ty71 (.tmp rfl) rfl (.tmp rfl) (by first | rfl | assumption) rfl rfl rfl rfl ?_
                                                      refine JL.q rfl rfl rfl (QW.assign .const) ?_
                                                      refine JL.nil ?_
                                                      refine thenQ.n ?_
                                                      refine J.ret ?_
                                                      refine blkQ.r ?_
                                                      refine thenQ.r ?_
                                                      exact ⟨_, [], _, RetEv.two rfl (REv.cell 0 ty71 rfl rfl rfl rfl (.refl _)) (REv.tmp rfl (.refl _)), rfl, List.Perm.refl _, shape_eq (by simp at *; unfold shLo shHi textLo textHi argsN; (repeat' split) <;> (try simp) <;> omega), rfl⟩
                                                  · try (exfalso; simp at *; omega; done)
                                                    all_goals
                                                      refine J.seq ?_
                                                      refine J.region_lit ?_
                                                      refine JL.q rfl rfl rfl (QW.eql (.tmp rfl) .const) ?_
                                                      refine JL.q rfl rfl rfl (QW.assign (.tmp rfl)) ?_
                                                      refine JL.nil ?_
                                                      refine thenQ.n ?_
                                                      refine J.cond (.tmp rfl) (fun c14 => ?_) (fun c14 => ?_)
                                                      · try (exfalso; simp at *; omega; done)
                                                        all_goals
                                                          refine J.seq ?_
                                                          refine J.region_lit ?_
                                                          refine JL.q rfl rfl rfl (QW.build (idx := [0, 1]) pl71 z71 rfl (.cons .const (.cons .const .nil)) rfl rfl rfl rfl) ?_
                                                          first | refine JL.store_boxF 0 ty71 (.tmp rfl) rfl (.tmp rfl) (by first | rfl | assumption) (rfl) (rfl) rfl ?_ | refine JL.store_box 0 ty71 (.tmp rfl) rfl (.tmp rfl) (by first | rfl | assumption) rfl rfl rfl rfl ?_
                                                          refine JL.q rfl rfl rfl (QW.assign .const) ?_
                                                          refine JL.nil ?_
                                                          refine thenQ.n ?_
                                                          refine J.ret ?_
                                                          refine blkQ.r ?_
                                                          refine thenQ.r ?_
                                                          exact ⟨_, [], _, RetEv.two rfl (REv.cell 0 ty71 rfl rfl rfl rfl (.refl _)) (REv.tmp rfl (.refl _)), rfl, List.Perm.refl _, shape_eq (by simp at *; unfold shLo shHi textLo textHi argsN; (repeat' split) <;> (try simp) <;> omega), rfl⟩
                                                      · try (exfalso; simp at *; omega; done)
                                                        all_goals
                                                          refine J.seq ?_
                                                          refine J.region_lit ?_
                                                          refine JL.q rfl rfl rfl (QW.eql (.tmp rfl) .const) ?_
                                                          refine JL.q rfl rfl rfl (QW.assign (.tmp rfl)) ?_
                                                          refine JL.nil ?_
                                                          refine thenQ.n ?_
                                                          refine J.cond (.tmp rfl) (fun c15 => ?_) (fun c15 => ?_)
                                                          · try (exfalso; simp at *; omega; done)
                                                            all_goals
                                                              refine J.seq ?_
                                                              refine J.region_lit ?_
                                                              refine JL.q rfl rfl rfl (QW.build (idx := [1]) pl71 z71 rfl (.cons .const .nil) rfl rfl rfl rfl) ?_
                                                              first | refine JL.store_boxF 0 ty71 (.tmp rfl) rfl (.tmp rfl) (by first | rfl | assumption) (rfl) (rfl) rfl ?_ | refine JL.store_box 0 ty71 (.tmp rfl) rfl (.tmp rfl) (by first | rfl | assumption) rfl rfl rfl rfl ?_
                                                              refine JL.q rfl rfl rfl (QW.assign .const) ?_
                                                              refine JL.nil ?_
                                                              refine thenQ.n ?_
                                                              refine J.ret ?_
                                                              refine blkQ.r ?_
                                                              refine thenQ.r ?_
                                                              exact ⟨_, [], _, RetEv.two rfl (REv.cell 0 ty71 rfl rfl rfl rfl (.refl _)) (REv.tmp rfl (.refl _)), rfl, List.Perm.refl _, shape_eq (by simp at *; unfold shLo shHi textLo textHi argsN; (repeat' split) <;> (try simp) <;> omega), rfl⟩
                                                          · try (exfalso; simp at *; omega; done)
                                                            all_goals
                                                              refine J.skip ?_
                                                              refine blkQ.n ?_
                                                              refine thenQ.n ?_
                                                              refine J.seq ?_
                                                              refine J.region_lit ?_
                                                              refine JL.q rfl rfl rfl (QW.build (idx := [0, 1]) pl71 z71 rfl (.cons .const (.cons .const .nil)) rfl rfl rfl rfl) ?_
                                                              refine JL.q rfl rfl rfl (QW.move (.tmp rfl)) ?_
                                                              refine JL.q rfl rfl rfl (QW.gtr (.tmp rfl) .const) ?_
                                                              refine JL.q rfl rfl rfl (QW.move (.tmp rfl)) ?_
                                                              refine JL.g rfl rfl rfl rfl rfl (fun hg => (QW.move (.tmp rfl))) ?_
                                                              refine JL.g rfl rfl rfl rfl rfl (fun hg => (QW.leq (.when rfl hg) .const)) ?_
                                                              refine JL.q rfl rfl rfl (QW.pick_and (.tmp rfl) (.tmp rfl)) ?_
                                                              first | refine JL.store_boxF 0 ty71 (.tmp rfl) rfl (.tmp rfl) (by first | rfl | assumption) (rfl) (rfl) rfl ?_ | refine JL.store_box 0 ty71 (.tmp rfl) rfl (.tmp rfl) (by first | rfl | assumption) rfl rfl rfl rfl ?_
                                                              refine JL.q rfl rfl rfl (QW.assign (.tmp rfl)) ?_
                                                              refine JL.nil ?_
                                                              refine thenQ.n ?_
                                                              refine J.ret ?_
                                                              exact ⟨_, [], _, RetEv.two rfl (REv.cell 0 ty71 rfl rfl rfl rfl (.refl _)) (REv.tmp rfl (.refl _)), rfl, List.Perm.refl _, shape_eq (by simp at *; unfold shLo shHi textLo textHi argsN; (repeat' split) <;> (try simp) <;> omega), rfl⟩
                                              · try (exfalso; simp at *; omega; done)
                                                all_goals
                                                  refine J.seq ?_
                                                  refine J.region_lit ?_
                                                  refine JL.q rfl rfl rfl (QW.eql (.tmp rfl) .const) ?_
                                                  refine JL.q rfl rfl rfl (QW.assign (.tmp rfl)) ?_
                                                  refine JL.nil ?_
                                                  refine thenQ.n ?_
                                                  refine J.cond (.tmp rfl) (fun c13 => ?_) (fun c13 => ?_)
                                                  · try (exfalso; simp at *; omega; done)
                                                    all_goals
                                                      refine J.skip ?_
                                                      refine thenQ.n ?_
                                                      refine J.cond (.tmp rfl) (fun c14 => ?_) (fun c14 => ?_)
                                                      · try (exfalso; simp at *; omega; done)
                                                        all_goals
                                                          refine J.seq ?_
                                                          refine J.region_lit ?_
                                                          refine JL.q rfl rfl rfl (QW.build (idx := [0, 1]) pl71 z71 rfl (.cons .const (.cons .const .nil)) rfl rfl rfl rfl) ?_
                                                          first | refine JL.store_boxF 0 ty71 (.tmp rfl) rfl (.tmp rfl) (by first | rfl | assumption) (rfl) (rfl) rfl ?_ | refine JL.store_box 0 ty71 (.tmp rfl) rfl (.tmp rfl) (by first | rfl | assumption) rfl rfl rfl rfl ?_
                                                          refine JL.q rfl rfl rfl (QW.assign .const) ?_
                                                          refine JL.nil ?_
                                                          refine thenQ.n ?_
                                                          refine J.ret ?_
                                                          refine blkQ.r ?_
                                                          refine thenQ.r ?_
                                                          exact ⟨_, [], _, RetEv.two rfl (REv.cell 0 ty71 rfl rfl rfl rfl (.refl _)) (REv.tmp rfl (.refl _)), rfl, List.Perm.refl _, shape_eq (by simp at *; unfold shLo shHi textLo textHi argsN; (repeat' split) <;> (try simp) <;> omega), rfl⟩
                                                      · try (exfalso; simp at *; omega; done)
                                                        all_goals
                                                          refine J.seq ?_
                                                          refine J.region_lit ?_
                                                          refine JL.q rfl rfl rfl (QW.eql (.tmp rfl) .const) ?_
                                                          refine JL.q rfl rfl rfl (QW.assign (.tmp rfl)) ?_
                                                          refine JL.nil ?_
                                                          refine thenQ.n ?_
                                                          refine J.cond (.tmp rfl) (fun c15 => ?_) (fun c15 => ?_)
                                                          · try (exfalso; simp at *; omega; done)
                                                            all_goals
                                                              refine J.seq ?_
                                                              refine J.region_lit ?_
                                                              refine JL.q rfl rfl rfl (QW.build (idx := [0, 1]) pl71 z71 rfl (.cons .const (.cons .const .nil)) rfl rfl rfl rfl) ?_
                                                              first | refine JL.store_boxF 0 ty71 (.tmp rfl) rfl (.tmp rfl) (by first | rfl | assumption) (rfl) (rfl) rfl ?_ | refine JL.store_box 0 ty71 (.tmp rfl) rfl (.tmp rfl) (by first | rfl | assumption) rfl rfl rfl rfl ?_
                                                              refine JL.q rfl rfl rfl (QW.assign .const) ?_
                                                              refine JL.nil ?_
                                                              refine thenQ.n ?_
                                                              refine J.ret ?_
                                                              refine blkQ.r ?_
                                                              refine thenQ.r ?_
                                                              exact ⟨_, [], _, RetEv.two rfl (REv.cell 0 ty71 rfl rfl rfl rfl (.refl _)) (REv.tmp rfl (.refl _)), rfl, List.Perm.refl _, shape_eq (by simp at *; unfold shLo shHi textLo textHi argsN; (repeat' split) <;> (try simp) <;> omega), rfl⟩
                                                          · try (exfalso; simp at *; omega; done)
                                                            all_goals
                                                              refine J.seq ?_
                                                              refine J.region_lit ?_
                                                              refine JL.q rfl rfl rfl (QW.eql (.tmp rfl) .const) ?_
                                                              refine JL.q rfl rfl rfl (QW.assign (.tmp rfl)) ?_
                                                              refine JL.nil ?_
                                                              refine thenQ.n ?_
                                                              refine J.cond (.tmp rfl) (fun c16 => ?_) (fun c16 => ?_)
                                                              · try (exfalso; simp at *; omega; done)
                                                                all_goals
                                                                  refine J.seq ?_
                                                                  refine J.region_lit ?_
                                                                  refine JL.q rfl rfl rfl (QW.build (idx := [1]) pl71 z71 rfl (.cons .const .nil) rfl rfl rfl rfl) ?_
                                                                  first | refine JL.store_boxF 0 ty71 (.tmp rfl) rfl (.tmp rfl) (by first | rfl | assumption) (rfl) (rfl) rfl ?_ | refine JL.store_box 0 ty71 (.tmp rfl) rfl (.tmp rfl) (by first | rfl | assumption) rfl rfl rfl rfl ?_
                                                                  refine JL.q rfl rfl rfl (QW.assign .const) ?_
                                                                  refine JL.nil ?_
                                                                  refine thenQ.n ?_
                                                                  refine J.ret ?_
                                                                  refine blkQ.r ?_
                                                                  refine thenQ.r ?_
                                                                  exact ⟨_, [], _, RetEv.two rfl (REv.cell 0 ty71 rfl rfl rfl rfl (.refl _)) (REv.tmp rfl (.refl _)), rfl, List.Perm.refl _, shape_eq (by simp at *; unfold shLo shHi textLo textHi argsN; (repeat' split) <;> (try simp) <;> omega), rfl⟩
                                                              · try (exfalso; simp at *; omega; done)
                                                                all_goals
                                                                  refine J.skip ?_
                                                                  refine blkQ.n ?_
                                                                  refine thenQ.n ?_
                                                                  refine J.seq ?_
                                                                  refine J.region_lit ?_
                                                                  refine JL.q rfl rfl rfl (QW.build (idx := [0, 1]) pl71 z71 rfl (.cons .const (.cons .const .nil)) rfl rfl rfl rfl) ?_
                                                                  refine JL.q rfl rfl rfl (QW.move (.tmp rfl)) ?_
                                                                  refine JL.q rfl rfl rfl (QW.gtr (.tmp rfl) .const) ?_
                                                                  refine JL.q rfl rfl rfl (QW.move (.tmp rfl)) ?_
                                                                  refine JL.g rfl rfl rfl rfl rfl (fun hg => (QW.move (.tmp rfl))) ?_
                                                                  refine JL.g rfl rfl rfl rfl rfl (fun hg => (QW.leq (.when rfl hg) .const)) ?_
                                                                  refine JL.q rfl rfl rfl (QW.pick_and (.tmp rfl) (.tmp rfl)) ?_
                                                                  first | refine JL.store_boxF 0 ty71 (.tmp rfl) rfl (.tmp rfl) (by first | rfl | assumption) (rfl) (rfl) rfl ?_ | refine JL.store_box 0 ty71 (.tmp rfl) rfl (.tmp rfl) (by first | rfl | assumption) rfl rfl rfl rfl ?_
                                                                  refine JL.q rfl rfl rfl (QW.assign (.tmp rfl)) ?_
                                                                  refine JL.nil ?_
                                                                  refine thenQ.n ?_
                                                                  refine J.ret ?_
                                                                  exact ⟨_, [], _, RetEv.two rfl (REv.cell 0 ty71 rfl rfl rfl rfl (.refl _)) (REv.tmp rfl (.refl _)), rfl, List.Perm.refl _, shape_eq (by simp at *; unfold shLo shHi textLo textHi argsN; (repeat' split) <;> (try simp) <;> omega), rfl⟩
                                                  · try (exfalso; simp at *; omega; done)
                                                    all_goals
                                                      refine J.region_lit ?_
                                                      refine JL.q rfl rfl rfl (QW.eql (.tmp rfl) .const) ?_
                                                      refine JL.q rfl rfl rfl (QW.assign (.tmp rfl)) ?_
                                                      refine JL.nil ?_
                                                      refine thenQ.n ?_
                                                      refine J.cond (.tmp rfl) (fun c14 => ?_) (fun c14 => ?_)
                                                      · try (exfalso; simp at *; omega; done)
                                                        all_goals
                                                          refine J.seq ?_
                                                          refine J.region_lit ?_
                                                          refine JL.q rfl rfl rfl (QW.build (idx := [0, 1]) pl71 z71 rfl (.cons .const (.cons .const .nil)) rfl rfl rfl rfl) ?_
                                                          first | refine JL.store_boxF 0 ty71 (.tmp rfl) rfl (.tmp rfl) (by first | rfl | assumption) (rfl) (rfl) rfl ?_ | refine JL.store_box 0 ty71 (.tmp rfl) rfl (.tmp rfl) (by first | rfl | assumption) rfl rfl rfl rfl ?_
                                                          refine JL.q rfl rfl rfl (QW.assign .const) ?_
                                                          refine JL.nil ?_
                                                          refine thenQ.n ?_
                                                          refine J.ret ?_
                                                          refine blkQ.r ?_
                                                          refine thenQ.r ?_
                                                          exact ⟨_, [], _, RetEv.two rfl (REv.cell 0 ty71 rfl rfl rfl rfl (.refl _)) (REv.tmp rfl (.refl _)), rfl, List.Perm.refl _, shape_eq (by simp at *; unfold shLo shHi textLo textHi argsN; (repeat' split) <;> (try simp) <;> omega), rfl⟩
                                                      · try (exfalso; simp at *; omega; done)
                                                        all_goals
                                                          refine J.seq ?_
                                                          refine J.region_lit ?_
                                                          refine JL.q rfl rfl rfl (QW.eql (.tmp rfl) .const) ?_
                                                          refine JL.q rfl rfl rfl (QW.assign (.tmp rfl)) ?_
                                                          refine JL.nil ?_
                                                          refine thenQ.n ?_
                                                          refine J.cond (.tmp rfl) (fun c15 => ?_) (fun c15 => ?_)
                                                          · try (exfalso; simp at *; omega; done)
                                                            all_goals
                                                              refine J.seq ?_
                                                              refine J.region_lit ?_
                                                              refine JL.q rfl rfl rfl (QW.build (idx := [0, 1]) pl71 z71 rfl (.cons .const (.cons .const .nil)) rfl rfl rfl rfl) ?_
                                                              first | refine JL.store_boxF 0 ty71 (.tmp rfl) rfl (.tmp rfl) (by first | rfl | assumption) (rfl) (rfl) rfl ?_ | refine JL.store_box 0 ty71 (.tmp rfl) rfl (.tmp rfl) (by first | rfl | assumption) rfl rfl rfl rfl ?_
                                                              refine JL.q rfl rfl rfl (QW.assign .const) ?_
                                                              refine JL.nil ?_
                                                              refine thenQ.n ?_
                                                              refine J.ret ?_
                                                              refine blkQ.r ?_
                                                              refine thenQ.r ?_
                                                              exact ⟨_, [], _, RetEv.two rfl (REv.cell 0 ty71 rfl rfl rfl rfl (.refl _)) (REv.tmp rfl (.refl _)), rfl, List.Perm.refl _, shape_eq (by simp at *; unfold shLo shHi textLo textHi argsN; (repeat' split) <;> (try simp) <;> omega), rfl⟩
                                                          · try (exfalso; simp at *; omega; done)
                                                            all_goals
                                                              refine J.seq ?_
                                                              refine J.region_lit ?_
                                                              refine JL.q rfl rfl rfl (QW.eql (.tmp rfl) .const) ?_
                                                              refine JL.q rfl rfl rfl (QW.assign (.tmp rfl)) ?_
                                                              refine JL.nil ?_
                                                              refine thenQ.n ?_
                                                              refine J.cond (.tmp rfl) (fun c16 => ?_) (fun c16 => ?_)
                                                              · try (exfalso; simp at *; omega; done)
                                                                all_goals
                                                                  refine J.seq ?_
                                                                  refine J.region_lit ?_
                                                                  refine JL.q rfl rfl rfl (QW.build (idx := [1]) pl71 z71 rfl (.cons .const .nil) rfl rfl rfl rfl) ?_
                                                                  first | refine JL.store_boxF 0 ty71 (.tmp rfl) rfl (.tmp rfl) (by first | rfl | assumption) (rfl) (rfl) rfl ?_ | refine JL.store_box 0 ty71 (.tmp rfl) rfl (.tmp rfl) (by first | rfl | assumption) rfl rfl rfl rfl ?_
                                                                  refine JL.q rfl rfl rfl (QW.assign .const) ?_
                                                                  refine JL.nil ?_
                                                                  refine thenQ.n ?_
                                                                  refine J.ret ?_
                                                                  refine blkQ.r ?_
                                                                  refine thenQ.r ?_
                                                                  exact ⟨_, [], _, RetEv.two rfl (REv.cell 0 ty71 rfl rfl rfl rfl (.refl _)) (REv.tmp rfl (.refl _)), rfl, List.Perm.refl _, shape_eq (by simp at *; unfold shLo shHi textLo textHi argsN; (repeat' split) <;> (try simp) <;> omega), rfl⟩
                                                              · try (exfalso; simp at *; omega; done)
                                                                all_goals
                                                                  refine J.skip ?_
                                                                  refine blkQ.n ?_
                                                                  refine thenQ.n ?_
                                                                  refine J.seq ?_
                                                                  refine J.region_lit ?_
                                                                  refine JL.q rfl rfl rfl (QW.build (idx := [0, 1]) pl71 z71 rfl (.cons .const (.cons .const .nil)) rfl rfl rfl rfl) ?_
                                                                  refine JL.q rfl rfl rfl (QW.move (.tmp rfl)) ?_
                                                                  refine JL.q rfl rfl rfl (QW.gtr (.tmp rfl) .const) ?_
                                                                  refine JL.q rfl rfl rfl (QW.move (.tmp rfl)) ?_
                                                                  refine JL.g rfl rfl rfl rfl rfl (fun hg => (QW.move (.tmp rfl))) ?_
                                                                  refine JL.g rfl rfl rfl rfl rfl (fun hg => (QW.leq (.when rfl hg) .const)) ?_
                                                                  refine JL.q rfl rfl rfl (QW.pick_and (.tmp rfl) (.tmp rfl)) ?_
                                                                  first | refine JL.store_boxF 0 ty71 (.tmp rfl) rfl (.tmp rfl) (by first | rfl | assumption) (rfl) (rfl) rfl ?_ | refine JL.store_box 0 ty71 (.tmp rfl) rfl (.tmp rfl) (by first | rfl | assumption) rfl rfl rfl rfl ?_
                                                                  refine JL.q rfl rfl rfl (QW.assign (.tmp rfl)) ?_
                                                                  refine JL.nil ?_
                                                                  refine thenQ.n ?_
                                                                  refine J.ret ?_
                                                                  exact ⟨_, [], _, RetEv.two rfl (REv.cell 0 ty71 rfl rfl rfl rfl (.refl _)) (REv.tmp rfl (.refl _)), rfl, List.Perm.refl _, shape_eq (by simp at *; unfold shLo shHi textLo textHi argsN; (repeat' split) <;> (try simp) <;> omega), rfl⟩
                      · try (exfalso; simp at *; omega; done)
                        all_goals
                          refine J.region_lit ?_
                          refine JL.q rfl rfl rfl (QW.eql (.tmp rfl) .const) ?_
                          refine JL.q rfl rfl rfl (QW.assign (.tmp rfl)) ?_
                          refine JL.nil ?_
                          refine thenQ.n ?_
                          refine J.cond (.tmp rfl) (fun c7 => ?_) (fun c7 => ?_)
                          · try (exfalso; simp at *; omega; done)
                            all_goals
                              refine J.seq ?_
                              refine J.region_lit ?_
                              refine JL.q rfl rfl rfl (QW.build (idx := []) pl71 z71 rfl .nil rfl rfl rfl rfl) ?_
                              first | refine JL.store_boxF 0 ty71 (.tmp rfl) rfl (.tmp rfl) (by first | rfl | assumption) (rfl) (rfl) rfl ?_ | refine JL.store_box 0 ty71 (.tmp rfl) rfl (.tmp rfl) (by first | rfl | assumption) rfl rfl rfl rfl ?_
                              refine JL.q rfl rfl rfl (QW.assign .const) ?_
                              refine JL.nil ?_
                              refine thenQ.n ?_
                              refine J.ret ?_
                              refine blkQ.r ?_
                              refine thenQ.r ?_
                              exact ⟨_, [], _, RetEv.two rfl (REv.cell 0 ty71 rfl rfl rfl rfl (.refl _)) (REv.tmp rfl (.refl _)), rfl, List.Perm.refl _, shape_eq (by simp at *; unfold shLo shHi textLo textHi argsN; (repeat' split) <;> (try simp) <;> omega), rfl⟩
                          · try (exfalso; simp at *; omega; done)
                            all_goals
                              refine J.seq ?_
                              refine J.region_lit ?_
                              refine JL.q rfl rfl rfl (QW.eql (.tmp rfl) .const) ?_
                              refine JL.q rfl rfl rfl (QW.assign (.tmp rfl)) ?_
                              refine JL.nil ?_
                              refine thenQ.n ?_
                              refine J.cond (.tmp rfl) (fun c8 => ?_) (fun c8 => ?_)
                              · try (exfalso; simp at *; omega; done)
                                all_goals
                                  refine J.seq ?_
                                  refine J.region_lit ?_
                                  refine JL.q rfl rfl rfl (QW.build (idx := [3]) pl71 z71 rfl (.cons .const .nil) rfl rfl rfl rfl) ?_
                                  first | refine JL.store_boxF 0 ty71 (.tmp rfl) rfl (.tmp rfl) (by first | rfl | assumption) (rfl) (rfl) rfl ?_ | refine JL.store_box 0 ty71 (.tmp rfl) rfl (.tmp rfl) (by first | rfl | assumption) rfl rfl rfl rfl ?_
                                  refine JL.q rfl rfl rfl (QW.assign .const) ?_
                                  refine JL.nil ?_
                                  refine thenQ.n ?_
                                  refine J.ret ?_
                                  refine blkQ.r ?_
                                  refine thenQ.r ?_
                                  exact ⟨_, [], _, RetEv.two rfl (REv.cell 0 ty71 rfl rfl rfl rfl (.refl _)) (REv.tmp rfl (.refl _)), rfl, List.Perm.refl _, shape_eq (by simp at *; unfold shLo shHi textLo textHi argsN; (repeat' split) <;> (try simp) <;> omega), rfl⟩
                              · try (exfalso; simp at *; omega; done)
                                all_goals
                                  refine J.seq ?_
                                  refine J.region_lit ?_
                                  refine JL.q rfl rfl rfl (QW.eql (.tmp rfl) .const) ?_
                                  refine JL.q rfl rfl rfl (QW.assign (.tmp rfl)) ?_
                                  refine JL.nil ?_
                                  refine thenQ.n ?_
                                  refine J.cond (.tmp rfl) (fun c9 => ?_) (fun c9 => ?_)
                                  · try (exfalso; simp at *; omega; done)
                                    all_goals
                                      refine J.seq ?_
                                      refine J.region_lit ?_
                                      refine JL.q rfl rfl rfl (QW.build (idx := [0, 1, 2, 3]) pl71 z71 rfl (.cons .const (.cons .const (.cons .const (.cons .const .nil)))) rfl rfl rfl rfl) ?_
                                      first | refine JL.store_boxF 0 ty71 (.tmp rfl) rfl (.tmp rfl) (by first | rfl | assumption) (rfl) (rfl) rfl ?_ | refine JL.store_box 0 ty71 (.tmp rfl) rfl (.tmp rfl) (by first | rfl | assumption) rfl rfl rfl rfl ?_
                                      refine JL.q rfl rfl rfl (QW.assign .const) ?_
                                      refine JL.nil ?_
                                      refine thenQ.n ?_
                                      refine J.ret ?_
                                      refine blkQ.r ?_
                                      refine thenQ.r ?_
                                      exact ⟨_, [], _, RetEv.two rfl (REv.cell 0 ty71 rfl rfl rfl rfl (.refl _)) (REv.tmp rfl (.refl _)), rfl, List.Perm.refl _, shape_eq (by simp at *; unfold shLo shHi textLo textHi argsN; (repeat' split) <;> (try simp) <;> omega), rfl⟩
                                  · try (exfalso; simp at *; omega; done)
                                    all_goals
                                      refine J.seq ?_
                                      refine J.region_lit ?_
                                      refine JL.q rfl rfl rfl (QW.eql (.tmp rfl) .const) ?_
                                      refine JL.q rfl rfl rfl (QW.assign (.tmp rfl)) ?_
                                      refine JL.nil ?_
                                      refine thenQ.n ?_
                                      refine J.cond (.tmp rfl) (fun c10 => ?_) (fun c10 => ?_)
                                      · try (exfalso; simp at *; omega; done)
                                        all_goals
                                          refine J.seq ?_
                                          refine J.region_lit ?_
                                          refine JL.q rfl rfl rfl (QW.build (idx := [0, 1, 2, 3]) pl71 z71 rfl (.cons .const (.cons .const (.cons .const (.cons .const .nil)))) rfl rfl rfl rfl) ?_
                                          first | refine JL.store_boxF 0 ty71 (.tmp rfl) rfl (.tmp rfl) (by first | rfl | assumption) (rfl) (rfl) rfl ?_ | refine JL.store_box 0 ty71 (.tmp rfl) rfl (.tmp rfl) (by first | rfl | assumption) rfl rfl rfl rfl ?_
                                          refine JL.q rfl rfl rfl (QW.assign .const) ?_
                                          refine JL.nil ?_
                                          refine thenQ.n ?_
                                          refine J.ret ?_
                                          refine blkQ.r ?_
                                          refine thenQ.r ?_
                                          exact ⟨_, [], _, RetEv.two rfl (REv.cell 0 ty71 rfl rfl rfl rfl (.refl _)) (REv.tmp rfl (.refl _)), rfl, List.Perm.refl _, shape_eq (by simp at *; unfold shLo shHi textLo textHi argsN; (repeat' split) <;> (try simp) <;> omega), rfl⟩
                                      · try (exfalso; simp at *; omega; done)
                                        all_goals
                                          refine J.seq ?_
                                          refine J.seq ?_
                                          refine J.region_lit ?_
                                          refine JL.q rfl rfl rfl (QW.eql (.tmp rfl) .const) ?_
                                          refine JL.q rfl rfl rfl (QW.assign (.tmp rfl)) ?_
                                          refine JL.nil ?_
                                          refine thenQ.n ?_
                                          refine J.cond (.tmp rfl) (fun c11 => ?_) (fun c11 => ?_)
                                          · try (exfalso; simp at *; omega; done)
                                            all_goals
                                              refine J.skip ?_
                                              refine thenQ.n ?_
                                              refine J.cond (.tmp rfl) (fun c12 => ?_) (fun c12 => ?_)
                                              · try (exfalso; simp at *; omega; done)
                                                all_goals
                                                  refine J.seq ?_
                                                  refine J.region_lit ?_
                                                  refine JL.q rfl rfl rfl (QW.build (idx := [0, 1]) pl71 z71 rfl (.cons .const (.cons .const .nil)) rfl rfl rfl rfl) ?_
                                                  first | refine JL.store_boxF 0 ty71 (.tmp rfl) rfl (.tmp rfl) (by first | rfl | assumption) (rfl) (rfl) rfl ?_ | refine JL.store_box 0 ty71 (.tmp rfl) rfl (.tmp rfl) (by first | rfl | assumption) rfl rfl rfl rfl ?_
                                                  refine JL.q rfl rfl rfl (QW.assign .const) ?_
                                                  refine JL.nil ?_
                                                  refine thenQ.n ?_
                                                  refine J.ret ?_
                                                  refine blkQ.r ?_
                                                  refine thenQ.r ?_
                                                  exact ⟨_, [], _, RetEv.two rfl (REv.cell 0 ty71 rfl rfl rfl rfl (.refl _)) (REv.tmp rfl (.refl _)), rfl, List.Perm.refl _, shape_eq (by simp at *; unfold shLo shHi textLo textHi argsN; (repeat' split) <;> (try simp) <;> omega), rfl⟩
                                              · try (exfalso; simp at *; omega; done)
                                                all_goals
                                                  refine J.seq ?_
                                                  refine J.region_lit ?_
                                                  refine JL.q rfl rfl rfl (QW.eql (.tmp rfl) .const) ?_
                                                  refine JL.q rfl rfl rfl (QW.assign (.tmp rfl)) ?_
                                                  refine JL.nil ?_
                                                  refine thenQ.n ?_
                                                  refine J.cond (.tmp rfl) (fun c13 => ?_) (fun c13 => ?_)
                                                  · try (exfalso; simp at *; omega; done)
                                                    all_goals
                                                      refine J.seq ?_
                                                      refine J.region_lit ?_
                                                      refine JL.q rfl rfl rfl (QW.build (idx := [0, 1]) pl71 z71 rfl (.cons .const (.cons .const .nil)) rfl rfl rfl rfl) ?_
                                                      first | refine JL.store_boxF 0 ty71 (.tmp rfl) rfl (.tmp rfl) (by first | rfl | assumption) (rfl) (rfl) rfl ?_ | refine JL.store_box 0 ty71 (.tmp rfl) rfl (.tmp rfl) (by first | rfl | assumption) rfl rfl rfl rfl ?_
                                                      refine JL.q rfl rfl rfl (QW.assign .const) ?_
                                                      refine JL.nil ?_
                                                      refine thenQ.n ?_
                                                      refine J.ret ?_
                                                      refine blkQ.r ?_
                                                      refine thenQ.r ?_
                                                      exact ⟨_, [], _, RetEv.two rfl (REv.cell 0 ty71 rfl rfl rfl rfl (.refl _)) (REv.tmp rfl (.refl _)), rfl, List.Perm.refl _, shape_eq (by simp at *; unfold shLo shHi textLo textHi argsN; (repeat' split) <;> (try simp) <;> omega), rfl⟩
                                                  · try (exfalso; simp at *; omega; done)
                                                    all_goals
                                                      refine J.seq ?_
                                                      refine J.region_lit ?_
                                                      refine JL.q rfl rfl rfl (QW.eql (.tmp rfl) .const) ?_
                                                      refine JL.q rfl rfl rfl (QW.assign (.tmp rfl)) ?_
                                                      refine JL.nil ?_
                                                      refine thenQ.n ?_
                                                      refine J.cond (.tmp rfl) (fun c14 => ?_) (fun c14 => ?_)
                                                      · try (exfalso; simp at *; omega; done)
                                                        all_goals
                                                          refine J.seq ?_
                                                          refine J.region_lit ?_
                                                          refine JL.q rfl rfl rfl (QW.build (idx := [1]) pl71 z71 rfl (.cons .const .nil) rfl rfl rfl rfl) ?_
                                                          first | refine JL.store_boxF 0 ty71 (.tmp rfl) rfl (.tmp rfl) (by first | rfl | assumption) (rfl) (rfl) rfl ?_ | refine JL.store_box 0 ty71 (.tmp rfl) rfl (.tmp rfl) (by first | rfl | assumption) rfl rfl rfl rfl ?_
                                                          refine JL.q rfl rfl rfl (QW.assign .const) ?_
                                                          refine JL.nil ?_
                                                          refine thenQ.n ?_
                                                          refine J.ret ?_
                                                          refine blkQ.r ?_
                                                          refine thenQ.r ?_
                                                          exact ⟨_, [], _, RetEv.two rfl (REv.cell 0 ty71 rfl rfl rfl rfl (.refl _)) (REv.tmp rfl (.refl _)), rfl, List.Perm.refl _, shape_eq (by simp at *; unfold shLo shHi textLo textHi argsN; (repeat' split) <;> (try simp) <;> omega), rfl⟩
                                                      · try (exfalso; simp at *; omega; done)
                                                        all_goals
                                                          refine J.skip ?_
                                                          refine blkQ.n ?_
                                                          refine thenQ.n ?_
                                                          refine J.seq ?_
                                                          refine J.region_lit ?_
                                                          refine JL.q rfl rfl rfl (QW.build (idx := [0, 1]) pl71 z71 rfl (.cons .const (.cons .const .nil)) rfl rfl rfl rfl) ?_
                                                          refine JL.q rfl rfl rfl (QW.move (.tmp rfl)) ?_
                                                          refine JL.q rfl rfl rfl (QW.gtr (.tmp rfl) .const) ?_
                                                          refine JL.q rfl rfl rfl (QW.move (.tmp rfl)) ?_
                                                          refine JL.g rfl rfl rfl rfl rfl (fun hg => (QW.move (.tmp rfl))) ?_
                                                          refine JL.g rfl rfl rfl rfl rfl (fun hg => (QW.leq (.when rfl hg) .const)) ?_
                                                          refine JL.q rfl rfl rfl (QW.pick_and (.tmp rfl) (.tmp rfl)) ?_
                                                          first | refine JL.store_boxF 0 ty71 (.tmp rfl) rfl (.tmp rfl) (by first | rfl | assumption) (rfl) (rfl) rfl ?_ | refine JL.store_box 0 ty71 (.tmp rfl) rfl (.tmp rfl) (by first | rfl | assumption) rfl rfl rfl rfl ?_
                                                          refine JL.q rfl rfl rfl (QW.assign (.tmp rfl)) ?_
                                                          refine JL.nil ?_
                                                          refine thenQ.n ?_
                                                          refine J.ret ?_
                                                          exact ⟨_, [], _, RetEv.two rfl (REv.cell 0 ty71 rfl rfl rfl rfl (.refl _)) (REv.tmp rfl (.refl _)), rfl, List.Perm.refl _, shape_eq (by simp at *; unfold shLo shHi textLo textHi argsN; (repeat' split) <;> (try simp) <;> omega), rfl⟩
                                          · try (exfalso; simp at *; omega; done)
                                            all_goals
                                              refine J.seq ?_
                                              refine J.region_lit ?_
                                              refine JL.q rfl rfl rfl (QW.eql (.tmp rfl) .const) ?_
                                              refine JL.q rfl rfl rfl (QW.assign (.tmp rfl)) ?_
                                              refine JL.nil ?_
                                              refine thenQ.n ?_
                                              refine J.cond (.tmp rfl) (fun c12 => ?_) (fun c12 => ?_)
                                              · try (exfalso; simp at *; omega; done)
                                                all_goals
                                                  refine J.skip ?_
                                                  refine thenQ.n ?_
                                                  refine J.cond (.tmp rfl) (fun c13 => ?_) (fun c13 => ?_)
                                                  · try (exfalso; simp at *; omega; done)
                                                    all_goals
                                                      refine J.seq ?_
                                                      refine J.region_lit ?_
                                                      refine JL.q rfl rfl rfl (QW.build (idx := [0, 1]) pl71 z71 rfl (.cons .const (.cons .const .nil)) rfl rfl rfl rfl) ?_
                                                      first | refine JL.store_boxF 0 ty71 (.tmp rfl) rfl (.tmp rfl) (by first | rfl | assumption) (rfl) (rfl) rfl ?_ | refine JL.store_box 0 ty71 (.tmp rfl) rfl (.tmp rfl) (by first | rfl | assumption) rfl rfl rfl rfl ?_
                                                      refine JL.q rfl rfl rfl (QW.assign .const) ?_
                                                      refine JL.nil ?_
                                                      refine thenQ.n ?_
                                                      refine J.ret ?_
                                                      refine blkQ.r ?_
                                                      refine thenQ.r ?_
                                                      exact ⟨_, [], _, RetEv.two rfl (REv.cell 0 ty71 rfl rfl rfl rfl (.refl _)) (REv.tmp rfl (.refl _)), rfl, List.Perm.refl _, shape_eq (by simp at *; unfold shLo shHi textLo textHi argsN; (repeat' split) <;> (try simp) <;> omega), rfl⟩
                                                  · try (exfalso; simp at *; omega; done)
                                                    all_goals
                                                      refine J.seq ?_
                                                      refine J.region_lit ?_
                                                      refine JL.q rfl rfl rfl (QW.eql (.tmp rfl) .const) ?_
                                                      refine JL.q rfl rfl rfl (QW.assign (.tmp rfl)) ?_
                                                      refine JL.nil ?_
                                                      refine thenQ.n ?_
                                                      refine J.cond (.tmp rfl) (fun c14 => ?_) (fun c14 => ?_)
                                                      · try (exfalso; simp at *; omega; done)
                                                        all_goals
                                                          refine J.seq ?_
                                                          refine J.region_lit ?_
                                                          refine JL.q rfl rfl rfl (QW.build (idx := [0, 1]) pl71 z71 rfl (.cons .const (.cons .const .nil)) rfl rfl rfl rfl) ?_
                                                          first | refine JL.store_boxF 0 ty71 (.tmp rfl) rfl (.tmp rfl) (by first | rfl | assumption) (rfl) (rfl) rfl ?_ | refine JL.store_box 0 ty71 (.tmp rfl) rfl (.tmp rfl) (by first | rfl | assumption) rfl rfl rfl rfl ?_
                                                          refine JL.q rfl rfl rfl (QW.assign .const) ?_
                                                          refine JL.nil ?_
                                                          refine thenQ.n ?_
                                                          refine J.ret ?_
                                                          refine blkQ.r ?_
                                                          refine thenQ.r ?_
                                                          exact ⟨_, [], _, RetEv.two rfl (REv.cell 0 ty71 rfl rfl rfl rfl (.refl _)) (REv.tmp rfl (.refl _)), rfl, List.Perm.refl _, shape_eq (by simp at *; unfold shLo shHi textLo textHi argsN; (repeat' split) <;> (try simp) <;> omega), rfl⟩
                                                      · try (exfalso; simp at *; omega; done)
                                                        all_goals
                                                          refine J.seq ?_
                                                          refine J.region_lit ?_
                                                          refine JL.q rfl rfl rfl (QW.eql (.tmp rfl) .const) ?_
                                                          refine JL.q rfl rfl rfl (QW.assign (.tmp rfl)) ?_
                                                          refine JL.nil ?_
                                                          refine thenQ.n ?_
                                                          refine J.cond (.tmp rfl) (fun c15 => ?_) (fun c15 => ?_)
                                                          · try (exfalso; simp at *; omega; done)
                                                            all_goals
                                                              refine J.seq ?_
                                                              refine J.region_lit ?_
                                                              refine JL.q rfl rfl rfl (QW.build (idx := [1]) pl71 z71 rfl (.cons .const .nil) rfl rfl rfl rfl) ?_
                                                              first | refine JL.store_boxF 0 ty71 (.tmp rfl) rfl (.tmp rfl) (by first | rfl | assumption) (rfl) (rfl) rfl ?_ | refine JL.store_box 0 ty71 (.tmp rfl) rfl (.tmp rfl) (by first | rfl | assumption) rfl rfl rfl rfl ?_
                                                              refine JL.q rfl rfl rfl (QW.assign .const) ?_
                                                              refine JL.nil ?_
                                                              refine thenQ.n ?_
                                                              refine J.ret ?_
                                                              refine blkQ.r ?_
                                                              refine thenQ.r ?_
                                                              exact ⟨_, [], _, RetEv.two rfl (REv.cell 0 ty71 rfl rfl rfl rfl (.refl _)) (REv.tmp rfl (.refl _)), rfl, List.Perm.refl _, shape_eq (by simp at *; unfold shLo shHi textLo textHi argsN; (repeat' split) <;> (try simp) <;> omega), rfl⟩
                                                          · try (exfalso; simp at *; omega; done)
                                                            all_goals
                                                              refine J.skip ?_
                                                              refine blkQ.n ?_
                                                              refine thenQ.n ?_
                                                              refine J.seq ?_
                                                              refine J.region_lit ?_
                                                              refine JL.q rfl rfl rfl (QW.build (idx := [0, 1]) pl71 z71 rfl (.cons .const (.cons .const .nil)) rfl rfl rfl rfl) ?_
                                                              refine JL.q rfl rfl rfl (QW.move (.tmp rfl)) ?_
                                                              refine JL.q rfl rfl rfl (QW.gtr (.tmp rfl) .const) ?_
                                                              refine JL.q rfl rfl rfl (QW.move (.tmp rfl)) ?_
                                                              refine JL.g rfl rfl rfl rfl rfl (fun hg => (QW.move (.tmp rfl))) ?_
                                                              refine JL.g rfl rfl rfl rfl rfl (fun hg => (QW.leq (.when rfl hg) .const)) ?_
                                                              refine JL.q rfl rfl rfl (QW.pick_and (.tmp rfl) (.tmp rfl)) ?_
                                                              first | refine JL.store_boxF 0 ty71 (.tmp rfl) rfl (.tmp rfl) (by first | rfl | assumption) (rfl) (rfl) rfl ?_ | refine JL.store_box 0 ty71 (.tmp rfl) rfl (.tmp rfl) (by first | rfl | assumption) rfl rfl rfl rfl ?_
                                                              refine JL.q rfl rfl rfl (QW.assign (.tmp rfl)) ?_
                                                              refine JL.nil ?_
                                                              refine thenQ.n ?_
                                                              refine J.ret ?_
                                                              exact ⟨_, [], _, RetEv.two rfl (REv.cell 0 ty71 rfl rfl rfl rfl (.refl _)) (REv.tmp rfl (.refl _)), rfl, List.Perm.refl _, shape_eq (by simp at *; unfold shLo shHi textLo textHi argsN; (repeat' split) <;> (try simp) <;> omega), rfl⟩
                                              · try (exfalso; simp at *; omega; done)
                                                all_goals
                                                  refine J.seq ?_
                                                  refine J.region_lit ?_
                                                  refine JL.q rfl rfl rfl (QW.eql (.tmp rfl) .const) ?_
                                                  refine JL.q rfl rfl rfl (QW.assign (.tmp rfl)) ?_
                                                  refine JL.nil ?_
                                                  refine thenQ.n ?_
                                                  refine J.cond (.tmp rfl) (fun c13 => ?_) (fun c13 => ?_)
                                                  · try (exfalso; simp at *; omega; done)
                                                    all_goals
                                                      refine J.skip ?_
                                                      refine thenQ.n ?_
                                                      refine J.cond (.tmp rfl) (fun c14 => ?_) (fun c14 => ?_)
                                                      · try (exfalso; simp at *; omega; done)
                                                        all_goals
                                                          refine J.seq ?_
                                                          refine J.region_lit ?_
                                                          refine JL.q rfl rfl rfl (QW.build (idx := [0, 1]) pl71 z71 rfl (.cons .const (.cons .const .nil)) rfl rfl rfl rfl) ?_
                                                          first | refine JL.store_boxF 0 ty71 (.tmp rfl) rfl (.tmp rfl) (by first | rfl | assumption) (rfl) (rfl) rfl ?_ | refine JL.store_box 0 ty71 (.tmp rfl) rfl (.tmp rfl) (by first | rfl | assumption) rfl rfl rfl rfl ?_
                                                          refine JL.q rfl rfl rfl (QW.assign .const) ?_
                                                          refine JL.nil ?_
                                                          refine thenQ.n ?_
                                                          refine J.ret ?_
                                                          refine blkQ.r ?_
                                                          refine thenQ.r ?_
                                                          exact ⟨_, [], _, RetEv.two rfl (REv.cell 0 ty71 rfl rfl rfl rfl (.refl _)) (REv.tmp rfl (.refl _)), rfl, List.Perm.refl _, shape_eq (by simp at *; unfold shLo shHi textLo textHi argsN; (repeat' split) <;> (try simp) <;> omega), rfl⟩
                                                      · try (exfalso; simp at *; omega; done)
                                                        all_goals
                                                          refine J.seq ?_
                                                          refine J.region_lit ?_
                                                          refine JL.q rfl rfl rfl (QW.eql (.tmp rfl) .const) ?_
                                                          refine JL.q rfl rfl rfl (QW.assign (.tmp rfl)) ?_
                                                          refine JL.nil ?_
                                                          refine thenQ.n ?_
                                                          refine J.cond (.tmp rfl) (fun c15 => ?_) (fun c15 => ?_)
                                                          · try (exfalso; simp at *; omega; done)
                                                            all_goals
                                                              refine J.seq ?_
                                                              refine J.region_lit ?_
                                                              refine JL.q rfl rfl rfl (QW.build (idx := [0, 1]) pl71 z71 rfl (.cons .const (.cons .const .nil)) rfl rfl rfl rfl) ?_
                                                              first | refine JL.store_boxF 0 ty71 (.tmp rfl) rfl (.tmp rfl) (by first | rfl | assumption) (rfl) (rfl) rfl ?_ | refine JL.store_box 0 ty71 (.tmp rfl) rfl (.tmp rfl) (by first | rfl | assumption) rfl rfl rfl rfl ?_
                                                              refine JL.q rfl rfl rfl (QW.assign .const) ?_
                                                              refine JL.nil ?_
                                                              refine thenQ.n ?_
                                                              refine J.ret ?_
                                                              refine blkQ.r ?_
                                                              refine thenQ.r ?_
                                                              exact ⟨_, [], _, RetEv.two rfl (REv.cell 0 ty71 rfl rfl rfl rfl (.refl _)) (REv.tmp rfl (.refl _)), rfl, List.Perm.refl _, shape_eq (by simp at *; unfold shLo shHi textLo textHi argsN; (repeat' split) <;> (try simp) <;> omega), rfl⟩
                                                          · try (exfalso; simp at *; omega; done)
                                                            all_goals
                                                              refine J.seq ?_
                                                              refine J.region_lit ?_
                                                              refine JL.q rfl rfl rfl (QW.eql (.tmp rfl) .const) ?_
                                                              refine JL.q rfl rfl rfl (QW.assign (.tmp rfl)) ?_
                                                              refine JL.nil ?_
                                                              refine thenQ.n ?_
                                                              refine J.cond (.tmp rfl) (fun c16 => ?_) (fun c16 => ?_)
                                                              · try (exfalso; simp at *; omega; done)
                                                                all_goals
                                                                  refine J.seq ?_
                                                                  refine J.region_lit ?_
                                                                  refine JL.q rfl rfl rfl (QW.build (idx := [1]) pl71 z71 rfl (.cons .const .nil) rfl rfl rfl rfl) ?_
                                                                  first | refine JL.store_boxF 0 ty71 (.tmp rfl) rfl (.tmp rfl) (by first | rfl | assumption) (rfl) (rfl) rfl ?_ | refine JL.store_box 0 ty71 (.tmp rfl) rfl (.tmp rfl) (by first | rfl | assumption) rfl rfl rfl rfl ?_
                                                                  refine JL.q rfl rfl rfl (QW.assign .const) ?_
                                                                  refine JL.nil ?_
                                                                  refine thenQ.n ?_
                                                                  refine J.ret ?_
                                                                  refine blkQ.r ?_
                                                                  refine thenQ.r ?_
                                                                  exact ⟨_, [], _, RetEv.two rfl (REv.cell 0 ty71 rfl rfl rfl rfl (.refl _)) (REv.tmp rfl (.refl _)), rfl, List.Perm.refl _, shape_eq (by simp at *; unfold shLo shHi textLo textHi argsN; (repeat' split) <;> (try simp) <;> omega), rfl⟩
                                                              · try (exfalso; simp at *; omega; done)
                                                                all_goals
                                                                  refine J.skip ?_
                                                                  refine blkQ.n ?_
                                                                  refine thenQ.n ?_
                                                                  refine J.seq ?_
                                                                  refine J.region_lit ?_
                                                                  refine JL.q rfl rfl rfl (QW.build (idx := [0, 1]) pl71 z71 rfl (.cons .const (.cons .const .nil)) rfl rfl rfl rfl) ?_
                                                                  refine JL.q rfl rfl rfl (QW.move (.tmp rfl)) ?_
                                                                  refine JL.q rfl rfl rfl (QW.gtr (.tmp rfl) .const) ?_
                                                                  refine JL.q rfl rfl rfl (QW.move (.tmp rfl)) ?_
                                                                  refine JL.g rfl rfl rfl rfl rfl (fun hg => (QW.move (.tmp rfl))) ?_
                                                                  refine JL.g rfl rfl rfl rfl rfl (fun hg => (QW.leq (.when rfl hg) .const)) ?_
                                                                  refine JL.q rfl rfl rfl (QW.pick_and (.tmp rfl) (.tmp rfl)) ?_
                                                                  first | refine JL.store_boxF 0 ty71 (.tmp rfl) rfl (.tmp rfl) (by first | rfl | assumption) (rfl) (rfl) rfl ?_ | refine JL.store_box 0 ty71 (.tmp rfl) rfl (.tmp rfl) (by first | rfl | assumption) rfl rfl rfl rfl ?_
                                                                  refine JL.q rfl rfl rfl (QW.assign (.tmp rfl)) ?_
                                                                  refine JL.nil ?_
                                                                  refine thenQ.n ?_
                                                                  refine J.ret ?_
                                                                  exact ⟨_, [], _, RetEv.two rfl (REv.cell 0 ty71 rfl rfl rfl rfl (.refl _)) (REv.tmp rfl (.refl _)), rfl, List.Perm.refl _, shape_eq (by simp at *; unfold shLo shHi textLo textHi argsN; (repeat' split) <;> (try simp) <;> omega), rfl⟩
                                                  · try (exfalso; simp at *; omega; done)
                                                    all_goals
                                                      refine J.region_lit ?_
                                                      refine JL.q rfl rfl rfl (QW.eql (.tmp rfl) .const) ?_
                                                      refine JL.q rfl rfl rfl (QW.assign (.tmp rfl)) ?_
                                                      refine JL.nil ?_
                                                      refine thenQ.n ?_
                                                      refine J.cond (.tmp rfl) (fun c14 => ?_) (fun c14 => ?_)
                                                      · try (exfalso; simp at *; omega; done)
                                                        all_goals
                                                          refine J.seq ?_
                                                          refine J.region_lit ?_
                                                          refine JL.q rfl rfl rfl (QW.build (idx := [0, 1]) pl71 z71 rfl (.cons .const (.cons .const .nil)) rfl rfl rfl rfl) ?_
                                                          first | refine JL.store_boxF 0 ty71 (.tmp rfl) rfl (.tmp rfl) (by first | rfl | assumption) (rfl) (rfl) rfl ?_ | refine JL.store_box 0 ty71 (.tmp rfl) rfl (.tmp rfl) (by first | rfl | assumption) rfl rfl rfl rfl ?_
                                                          refine JL.q rfl rfl rfl (QW.assign .const) ?_
                                                          refine JL.nil ?_
                                                          refine thenQ.n ?_
                                                          refine J.ret ?_
                                                          refine blkQ.r ?_
                                                          refine thenQ.r ?_
                                                          exact ⟨_, [], _, RetEv.two rfl (REv.cell 0 ty71 rfl rfl rfl rfl (.refl _)) (REv.tmp rfl (.refl _)), rfl, List.Perm.refl _, shape_eq (by simp at *; unfold shLo shHi textLo textHi argsN; (repeat' split) <;> (try simp) <;> omega), rfl⟩
                                                      · try (exfalso; simp at *; omega; done)
                                                        all_goals
                                                          refine J.seq ?_
                                                          refine J.region_lit ?_
                                                          refine JL.q rfl rfl rfl (QW.eql (.tmp rfl) .const) ?_
                                                          refine JL.q rfl rfl rfl (QW.assign (.tmp rfl)) ?_
                                                          refine JL.nil ?_
                                                          refine thenQ.n ?_
                                                          refine J.cond (.tmp rfl) (fun c15 => ?_) (fun c15 => ?_)
                                                          · try (exfalso; simp at *; omega; done)
                                                            all_goals
                                                              refine J.seq ?_
                                                              refine J.region_lit ?_
                                                              refine JL.q rfl rfl rfl (QW.build (idx := [0, 1]) pl71 z71 rfl (.cons .const (.cons .const .nil)) rfl rfl rfl rfl) ?_
                                                              first | refine JL.store_boxF 0 ty71 (.tmp rfl) rfl (.tmp rfl) (by first | rfl | assumption) (rfl) (rfl) rfl ?_ | refine JL.store_box 0 ty71 (.tmp rfl) rfl (.tmp rfl) (by first | rfl | assumption) rfl rfl rfl rfl ?_
                                                              refine JL.q rfl rfl rfl (QW.assign .const) ?_
                                                              refine JL.nil ?_
                                                              refine thenQ.n ?_
                                                              refine J.ret ?_
                                                              refine blkQ.r ?_
                                                              refine thenQ.r ?_
                                                              exact ⟨_, [], _, RetEv.two rfl (REv.cell 0 ty71 rfl rfl rfl rfl (.refl _)) (REv.tmp rfl (.refl _)), rfl, List.Perm.refl _, shape_eq (by simp at *; unfold shLo shHi textLo textHi argsN; (repeat' split) <;> (try simp) <;> omega), rfl⟩
                                                          · try (exfalso; simp at *; omega; done)
                                                            all_goals
                                                              refine J.seq ?_
                                                              refine J.region_lit ?_
                                                              refine JL.q rfl rfl rfl (QW.eql (.tmp rfl) .const) ?_
                                                              refine JL.q rfl rfl rfl (QW.assign (.tmp rfl)) ?_
                                                              refine JL.nil ?_
                                                              refine thenQ.n ?_
                                                              refine J.cond (.tmp rfl) (fun c16 => ?_) (fun c16 => ?_)
                                                              · try (exfalso; simp at *; omega; done)
                                                                all_goals
                                                                  refine J.seq ?_
                                                                  refine J.region_lit ?_
                                                                  refine JL.q rfl rfl rfl (QW.build (idx := [1]) pl71 z71 rfl (.cons .const .nil) rfl rfl rfl rfl) ?_
                                                                  first | refine JL.store_boxF 0 ty71 (.tmp rfl) rfl (.tmp rfl) (by first | rfl | assumption) (rfl) (rfl) rfl ?_ | refine JL.store_box 0 ty71 (.tmp rfl) rfl (.tmp rfl) (by first | rfl | assumption) rfl rfl rfl rfl ?_
                                                                  refine JL.q rfl rfl rfl (QW.assign .const) ?_
                                                                  refine JL.nil ?_
                                                                  refine thenQ.n ?_
                                                                  refine J.ret ?_
                                                                  refine blkQ.r ?_
                                                                  refine thenQ.r ?_
                                                                  exact ⟨_, [], _, RetEv.two rfl (REv.cell 0 ty71 rfl rfl rfl rfl (.refl _)) (REv.tmp rfl (.refl _)), rfl, List.Perm.refl _, shape_eq (by simp at *; unfold shLo shHi textLo textHi argsN; (repeat' split) <;> (try simp) <;> omega), rfl⟩
                                                              · try (exfalso; simp at *; omega; done)
                                                                all_goals
                                                                  refine J.skip ?_
                                                                  refine blkQ.n ?_
                                                                  refine thenQ.n ?_
                                                                  refine J.seq ?_
                                                                  refine J.region_lit ?_
                                                                  refine JL.q rfl rfl rfl (QW.build (idx := [0, 1]) pl71 z71 rfl (.cons .const (.cons .const .nil)) rfl rfl rfl rfl) ?_
                                                                  refine JL.q rfl rfl rfl (QW.move (.tmp rfl)) ?_
                                                                  refine JL.q rfl rfl rfl (QW.gtr (.tmp rfl) .const) ?_
                                                                  refine JL.q rfl rfl rfl (QW.move (.tmp rfl)) ?_
                                                                  refine JL.g rfl rfl rfl rfl rfl (fun hg => (QW.move (.tmp rfl))) ?_
                                                                  refine JL.g rfl rfl rfl rfl rfl (fun hg => (QW.leq (.when rfl hg) .const)) ?_
                                                                  refine JL.q rfl rfl rfl (QW.pick_and (.tmp rfl) (.tmp rfl)) ?_
                                                                  first | refine JL.store_boxF 0 ty71 (.tmp rfl) rfl (.tmp rfl) (by first | rfl | assumption) (rfl) (rfl) rfl ?_ | refine JL.store_box 0 ty71 (.tmp rfl) rfl (.tmp rfl) (by first | rfl | assumption) rfl rfl rfl rfl ?_
                                                                  refine JL.q rfl rfl rfl (QW.assign (.tmp rfl)) ?_
                                                                  refine JL.nil ?_
                                                                  refine thenQ.n ?_
                                                                  refine J.ret ?_
                                                                  exact ⟨_, [], _, RetEv.two rfl (REv.cell 0 ty71 rfl rfl rfl rfl (.refl _)) (REv.tmp rfl (.refl _)), rfl, List.Perm.refl _, shape_eq (by simp at *; unfold shLo shHi textLo textHi argsN; (repeat' split) <;> (try simp) <;> omega), rfl⟩
end Go.Proofs.Ytlppnhkjonmniaa.J

