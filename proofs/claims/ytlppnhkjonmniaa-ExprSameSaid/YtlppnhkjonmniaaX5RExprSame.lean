/- Texts of this proof, laid together. -/
import Derived.Test.YtlppnhkjonmniaaX4RExprSame
/- Walks: expressions, one part. -/
namespace Go.Proofs.Ytlppnhkjonmniaa.J
open Go Go.RowKit
set_option linter.unusedVariables false
set_option linter.unusedSimpArgs false
set_option maxRecDepth 10000
set_option maxHeartbeats 4000000
theorem part_arith {q n lo hi tl : Int} {z : Bool} (hn : 0 ≤ n) (hq : q = -2 ∨ q = -1 ∨ (0 ≤ q ∧ q ≤ 3)) :
    ((decide (q ≠ -2) && z) && (decide ((if q = -1 then 0 else if q = -2 then 2 else q) ≤ n) && decide (n ≤ (if q = -1 then 8 else if q = -2 then 2 else q))) && (decide (lo ≤ tl) && decide (tl ≤ hi))) =
    (decide (q ≠ -2) && (q == -1 || (n == q)) && decide (n ≤ 8) && decide (lo ≤ tl) && decide (tl ≤ hi) && z) := by
  rw [Bool.eq_iff_iff]
  simp only [Bool.and_eq_true, Bool.or_eq_true, decide_eq_true_eq, beq_iff_eq]
  rcases hq with rfl | rfl | ⟨h4, h5⟩
  · simp
  · simp
    constructor
    · rintro ⟨⟨h6, h7, h7'⟩, h8, h9⟩; exact ⟨⟨⟨h7', h8⟩, h9⟩, h6⟩
    · rintro ⟨⟨⟨h6, h8⟩, h9⟩, h7⟩; exact ⟨⟨h7, by omega, h6⟩, h8, h9⟩
  · rw [if_neg (by omega), if_neg (by omega)]
    constructor
    · rintro ⟨⟨⟨h6, h7⟩, h8, h9⟩, h10, h11⟩; exact ⟨⟨⟨⟨⟨h6, .inr (by omega)⟩, by omega⟩, h10⟩, h11⟩, h7⟩
    · rintro ⟨⟨⟨⟨⟨h6, h12⟩, h13⟩, h10⟩, h11⟩, h7⟩
      have : n = q := h12.resolve_left (by omega)
      exact ⟨⟨⟨h6, h7⟩, by omega, by omega⟩, h10, h11⟩
theorem part_eq {o : Int} {b : Nat} {t : List UInt8} {l : List EX} {n : Int} (hn : n = (l.length : Int)) :
    ((decide (argsN o ≠ -2) && (((b : Int) == 0) || ((o == 3) && ((canonN b : Int) == (b : Int))))) && (decide (shLo o ≤ n) && decide (n ≤ shHi o)) && (decide (textLo o ≤ (t.length : Int)) && decide ((t.length : Int) ≤ textHi o))) = (EX.mk o b t l).ok := by
  subst hn
  have hz : canonN 0 = 0 := by decide
  have h1 : (((b : Int) == 0) || ((o == 3) && ((canonN b : Int) == (b : Int)))) = (if o = 3 then canonN b == b else b == 0) := by
    by_cases h3 : o = 3
    · subst h3
      rw [if_pos rfl, Bool.eq_iff_iff]
      simp
      constructor
      · rintro (h | h)
        · have : b = 0 := by omega
          rw [this, hz]
        · omega
      · intro h; right; rw [h]
    · rw [if_neg h3, Bool.eq_iff_iff]
      simp [h3]
  have ha : argsN o = -2 ∨ argsN o = -1 ∨ (0 ≤ argsN o ∧ argsN o ≤ 3) := by unfold argsN; (repeat' split) <;> omega
  rw [h1]
  exact part_arith (by omega) ha
theorem epart_ok {fr : Bool} {v : EX} {ys : List AV} (hv : Xc fr v ys) : Fn Try.prog 33 [.agg ys] (.c (.bool v.ok)) := by
  obtain ⟨o, b, t, l⟩ := v
  subst hv
  refine AC.of_J Try.func33 rfl Try.ntmps33 rfl fun w0 A0 => ?_
  refine J.seq ?_
  refine J.region_lit ?_
  refine JL.box_agg (.tmp rfl) rfl fun b1 => ?_
  refine JL.q rfl rfl rfl (QW.assign .const) ?_
  refine JL.nil ?_
  refine thenQ.n ?_
  refine J.seq ?_
  refine J.region_lit ?_
  refine JL.q rfl rfl rfl (QW.field_ptr fo32_0 (.tmp rfl) rfl) ?_
  refine JL.q rfl rfl rfl (QW.load_box1 0 ty3 (.tmp rfl) rfl rfl) ?_
  refine JL.q rfl rfl rfl (QW.call gofn37 (.cons (.tmp rfl) .nil) (shapeOf_ok _)) ?_
  refine JL.q rfl rfl rfl (QW.move (.tmp rfl)) ?_
  refine JL.q rfl rfl rfl (QW.extract (.tmp rfl) rfl) ?_
  refine JL.q rfl rfl rfl (QW.extract (.tmp rfl) rfl) ?_
  refine JL.alloc z71 rfl rfl fun b3 => ?_
  first | refine JL.store_boxF 0 ty71 (.tmp rfl) rfl (.tmp rfl) (by first | rfl | assumption) (rfl) (rfl) rfl ?_ | refine JL.store_box 0 ty71 (.tmp rfl) rfl (.tmp rfl) (by first | rfl | assumption) rfl rfl rfl rfl ?_
  refine JL.q rfl rfl rfl (QW.assign (.tmp rfl)) ?_
  refine JL.nil ?_
  refine thenQ.n ?_
  refine J.seq ?_
  refine J.region_tailK 13 mixed (by kernel_rfl) (by kernel_rfl) (by kernel_rfl) rfl ?_
  refine .cons [] rfl rfl rfl (.q rfl (QW.field_ptr fo32_1 (.tmp rfl) rfl)) ?_
  refine .cons [12] rfl rfl rfl (.q rfl (QW.load_box1 1 ty22 (.tmp rfl) rfl rfl)) ?_
  refine .cons [13] rfl rfl rfl (.q rfl (QW.eql (.tmp rfl) .const)) ?_
  refine .cons [14] rfl rfl rfl (.q rfl (QW.move (.tmp rfl))) ?_
  refine .cons [15] rfl rfl rfl (.g rfl rfl rfl (fun hg => (QW.field_ptr fo32_0 (.tmp rfl) rfl))) ?_
  refine .cons [16, 15] rfl rfl rfl (.g rfl rfl rfl (fun hg => (QW.load_box1 1 ty3 (.when rfl hg) rfl rfl))) ?_
  refine .cons [17, 15] rfl rfl rfl (.g rfl rfl rfl (fun hg => (QW.eql (.when rfl hg) .const))) ?_
  refine .cons [18, 15] rfl rfl rfl (.g rfl rfl rfl (fun hg => (QW.move (.when rfl hg)))) ?_
  refine .cons [19] rfl rfl rfl (.gg rfl rfl rfl (fun hg => (QW.field_ptr fo32_1 (.tmp rfl) rfl))) ?_
  refine .cons [20, 19] rfl rfl rfl (.gg rfl rfl rfl (fun hg => (QW.load_box1 1 ty22 (.when rfl hg) rfl rfl))) ?_
  refine .cons [21, 19] rfl rfl rfl (.gg rfl rfl rfl (fun hg => (QW.call gofn39 (.cons (.when rfl hg) .nil) (canon_ok _)))) ?_
  refine .cons [19] rfl rfl rfl (.gg rfl rfl rfl (fun hg => (QW.field_ptr fo32_1 (.tmp rfl) rfl))) ?_
  refine .cons [23, 19] rfl rfl rfl (.gg rfl rfl rfl (fun hg => (QW.load_box1 1 ty22 (.when rfl hg) rfl rfl))) ?_
  refine .nil ?_
  refine JL.gg rfl rfl rfl rfl rfl (fun hg => (QW.eql (.when rfl hg) (.when rfl hg))) ?_
  refine JL.g rfl rfl rfl rfl rfl (fun hg => (by first | exact QW.pick_and (.when rfl hg) (.tmp rfl) | exact QW.pick_and2 hg (.when rfl hg) (.tmp rfl))) ?_
  refine JL.q rfl rfl rfl (QW.pick_or (.tmp rfl) (.tmp rfl)) ?_
  refine JL.q rfl rfl rfl (QW.assign (.tmp rfl)) ?_
  refine JL.nil ?_
  refine thenQ.n ?_
  refine J.seq ?_
  refine J.region_lit ?_
  refine JL.q rfl rfl rfl (QW.move (.tmp rfl)) ?_
  refine JL.q rfl rfl rfl (QW.move (.tmp rfl)) ?_
  refine JL.g rfl rfl rfl rfl rfl (fun hg => (QW.move (.tmp rfl))) ?_
  refine JL.q rfl rfl rfl (QW.pick_and (.tmp rfl) (.tmp rfl)) ?_
  refine JL.q rfl rfl rfl (QW.move (.tmp rfl)) ?_
  refine JL.g rfl rfl rfl rfl rfl (fun hg => (QW.field_ptr fo32_3 (.tmp rfl) rfl)) ?_
  refine JL.g rfl rfl rfl rfl rfl (fun hg => (QW.load_box1 1 ty30 (.when rfl hg) rfl rfl)) ?_
  refine JL.g rfl rfl rfl rfl rfl (fun hg => (by first | exact QW.len_sl sl30 (.when rfl hg) | exact QW.len_nil sl30 (.when rfl hg))) ?_
  refine JL.g rfl rfl rfl rfl rfl (fun hg => (QW.field_ptr fo71_0 (.tmp rfl) rfl)) ?_
  refine JL.g rfl rfl rfl rfl rfl (fun hg => (QW.load_box1 0 ty3 (.when rfl hg) rfl rfl)) ?_
  refine JL.g rfl rfl rfl rfl rfl (fun hg => (QW.field_ptr fo71_1 (.tmp rfl) rfl)) ?_
  refine JL.g rfl rfl rfl rfl rfl (fun hg => (QW.load_box1 0 ty3 (.when rfl hg) rfl rfl)) ?_
  refine JL.g rfl rfl rfl rfl rfl (fun hg => (QW.call gofn40 (.cons (.when rfl hg) (.cons (.when rfl hg) (.cons (.when rfl hg) .nil))) (within_ok _ _ _))) ?_
  refine JL.q rfl rfl rfl (QW.pick_and (.tmp rfl) (.tmp rfl)) ?_
  refine JL.q rfl rfl rfl (QW.move (.tmp rfl)) ?_
  refine JL.g rfl rfl rfl rfl rfl (fun hg => (QW.field_ptr fo32_2 (.tmp rfl) rfl)) ?_
  refine JL.g rfl rfl rfl rfl rfl (fun hg => (QW.load_box1 1 ty9 (.when rfl hg) rfl rfl)) ?_
  refine JL.g rfl rfl rfl rfl rfl (fun hg => (QW.len_s st9 (.when rfl hg))) ?_
  refine JL.g rfl rfl rfl rfl rfl (fun hg => (QW.field_ptr fo71_2 (.tmp rfl) rfl)) ?_
  refine JL.g rfl rfl rfl rfl rfl (fun hg => (QW.load_box1 0 ty3 (.when rfl hg) rfl rfl)) ?_
  refine JL.g rfl rfl rfl rfl rfl (fun hg => (QW.field_ptr fo71_3 (.tmp rfl) rfl)) ?_
  refine JL.g rfl rfl rfl rfl rfl (fun hg => (QW.load_box1 0 ty3 (.when rfl hg) rfl rfl)) ?_
  refine JL.g rfl rfl rfl rfl rfl (fun hg => (QW.call gofn40 (.cons (.when rfl hg) (.cons (.when rfl hg) (.cons (.when rfl hg) .nil))) (within_ok _ _ _))) ?_
  refine JL.q rfl rfl rfl (QW.pick_and (.tmp rfl) (.tmp rfl)) ?_
  refine JL.q rfl rfl rfl (QW.assign (.tmp rfl)) ?_
  refine JL.nil ?_
  refine thenQ.n ?_
  refine J.ret ?_
  exact ⟨_, selP [.k, .k] _, _, RetEv.one rfl (REv.tmp rfl (.refl _)), rfl, sel_perm [.k, .k] _, ⟨by rw [← part_eq (n := ((EX.css fr l).length : Int)) (by rw [EX.css_length])], rfl⟩⟩
end Go.Proofs.Ytlppnhkjonmniaa.J

/- Walks: expressions, the page's own small functions. -/
namespace Go.Proofs.Ytlppnhkjonmniaa.J
open Go Go.RowKit
set_option linter.unusedVariables false
set_option linter.unusedSimpArgs false
set_option maxRecDepth 10000
set_option maxHeartbeats 4000000
theorem rargs_ok (o : Int) : Fn Try.prog 41 [.c (.int .i64 o)] (.c (.int .i64 (argsN o))) := by
  refine AC.of_J Try.func41 rfl Try.ntmps41 rfl fun w0 A0 => ?_
  refine J.seq ?_
  refine J.region_lit ?_
  refine JL.q rfl rfl rfl (QW.assign .const) ?_
  refine JL.nil ?_
  refine thenQ.n ?_
  refine J.seq ?_
  refine J.block ?_
  refine J.seq ?_
  refine J.region_lit ?_
  refine JL.q rfl rfl rfl (QW.move (.tmp rfl)) ?_
  refine JL.q rfl rfl rfl (QW.lss (.tmp rfl) .const) ?_
  refine JL.q rfl rfl rfl (QW.move (.tmp rfl)) ?_
  refine JL.g rfl rfl rfl rfl rfl (fun hg => (QW.move (.tmp rfl))) ?_
  refine JL.g rfl rfl rfl rfl rfl (fun hg => (QW.geq (.when rfl hg) .const)) ?_
  refine JL.q rfl rfl rfl (QW.pick_or (.tmp rfl) (.tmp rfl)) ?_
  refine JL.q rfl rfl rfl (QW.assign (.tmp rfl)) ?_
  refine JL.nil ?_
  refine thenQ.n ?_
  refine J.cond (.tmp rfl) (fun c1 => ?_) (fun c1 => ?_)
  · try (exfalso; simp at *; omega; done)
    all_goals
      refine J.seq ?_
      refine J.region_lit ?_
      refine JL.q rfl rfl rfl (QW.assign .const) ?_
      refine JL.nil ?_
      refine thenQ.n ?_
      refine J.ret ?_
      refine blkQ.r ?_
      refine thenQ.r ?_
      exact ⟨_, selP [] _, _, RetEv.one rfl (REv.tmp rfl (.refl _)), rfl, sel_perm [] _, ⟨by congr 3; simp at *; unfold argsN; (repeat' split) <;> omega, rfl⟩⟩
  · try (exfalso; simp at *; omega; done)
    all_goals
      refine J.seq ?_
      refine J.region_lit ?_
      refine JL.q rfl rfl rfl (QW.move (.tmp rfl)) ?_
      refine JL.q rfl rfl rfl (QW.leq (.tmp rfl) .const) ?_
      refine JL.q rfl rfl rfl (QW.assign (.tmp rfl)) ?_
      refine JL.nil ?_
      refine thenQ.n ?_
      refine J.cond (.tmp rfl) (fun c2 => ?_) (fun c2 => ?_)
      · try (exfalso; simp at *; omega; done)
        all_goals
          refine J.seq ?_
          refine J.region_lit ?_
          refine JL.q rfl rfl rfl (QW.assign .const) ?_
          refine JL.nil ?_
          refine thenQ.n ?_
          refine J.ret ?_
          refine blkQ.r ?_
          refine thenQ.r ?_
          exact ⟨_, selP [] _, _, RetEv.one rfl (REv.tmp rfl (.refl _)), rfl, sel_perm [] _, ⟨by congr 3; simp at *; unfold argsN; (repeat' split) <;> omega, rfl⟩⟩
      · try (exfalso; simp at *; omega; done)
        all_goals
          refine J.seq ?_
          refine J.region_lit ?_
          refine JL.q rfl rfl rfl (QW.move (.tmp rfl)) ?_
          refine JL.q rfl rfl rfl (QW.eql (.tmp rfl) .const) ?_
          refine JL.q rfl rfl rfl (QW.assign (.tmp rfl)) ?_
          refine JL.nil ?_
          refine thenQ.n ?_
          refine J.cond (.tmp rfl) (fun c3 => ?_) (fun c3 => ?_)
          · try (exfalso; simp at *; omega; done)
            all_goals
              refine J.seq ?_
              refine J.region_lit ?_
              refine JL.q rfl rfl rfl (QW.assign .const) ?_
              refine JL.nil ?_
              refine thenQ.n ?_
              refine J.ret ?_
              refine blkQ.r ?_
              refine thenQ.r ?_
              exact ⟨_, selP [] _, _, RetEv.one rfl (REv.tmp rfl (.refl _)), rfl, sel_perm [] _, ⟨by congr 3; simp at *; unfold argsN; (repeat' split) <;> omega, rfl⟩⟩
          · try (exfalso; simp at *; omega; done)
            all_goals
              refine J.skip ?_
              refine blkQ.n ?_
              refine thenQ.n ?_
              refine J.seq ?_
              refine J.seq ?_
              refine J.region_lit ?_
              refine JL.q rfl rfl rfl (QW.move (.tmp rfl)) ?_
              refine JL.nil ?_
              refine thenQ.n ?_
              refine J.block ?_
              refine J.seq ?_
              refine J.seq ?_
              refine J.region_lit ?_
              refine JL.q rfl rfl rfl (QW.eql (.tmp rfl) .const) ?_
              refine JL.q rfl rfl rfl (QW.assign (.tmp rfl)) ?_
              refine JL.nil ?_
              refine thenQ.n ?_
              refine J.cond (.tmp rfl) (fun c4 => ?_) (fun c4 => ?_)
              · try (exfalso; simp at *; omega; done)
                all_goals
                  refine J.skip ?_
                  refine thenQ.n ?_
                  refine J.cond (.tmp rfl) (fun c5 => ?_) (fun c5 => ?_)
                  · try (exfalso; simp at *; omega; done)
                    all_goals
                      refine J.seq ?_
                      refine J.region_lit ?_
                      refine JL.q rfl rfl rfl (QW.assign .const) ?_
                      refine JL.nil ?_
                      refine thenQ.n ?_
                      refine J.ret ?_
                      refine blkQ.r ?_
                      refine thenQ.r ?_
                      exact ⟨_, selP [] _, _, RetEv.one rfl (REv.tmp rfl (.refl _)), rfl, sel_perm [] _, ⟨by congr 3; simp at *; unfold argsN; (repeat' split) <;> omega, rfl⟩⟩
                  · try (exfalso; simp at *; omega; done)
                    all_goals
                      refine J.seq ?_
                      refine J.region_lit ?_
                      refine JL.q rfl rfl rfl (QW.eql (.tmp rfl) .const) ?_
                      refine JL.q rfl rfl rfl (QW.assign (.tmp rfl)) ?_
                      refine JL.nil ?_
                      refine thenQ.n ?_
                      refine J.cond (.tmp rfl) (fun c6 => ?_) (fun c6 => ?_)
                      · try (exfalso; simp at *; omega; done)
                        all_goals
                          refine J.seq ?_
                          refine J.region_lit ?_
                          refine JL.q rfl rfl rfl (QW.assign .const) ?_
                          refine JL.nil ?_
                          refine thenQ.n ?_
                          refine J.ret ?_
                          refine blkQ.r ?_
                          refine thenQ.r ?_
                          exact ⟨_, selP [] _, _, RetEv.one rfl (REv.tmp rfl (.refl _)), rfl, sel_perm [] _, ⟨by congr 3; simp at *; unfold argsN; (repeat' split) <;> omega, rfl⟩⟩
                      · try (exfalso; simp at *; omega; done)
                        all_goals
                          refine J.skip ?_
                          refine blkQ.n ?_
                          refine thenQ.n ?_
                          refine J.seq ?_
                          refine J.region_lit ?_
                          refine JL.q rfl rfl rfl (QW.assign .const) ?_
                          refine JL.nil ?_
                          refine thenQ.n ?_
                          refine J.ret ?_
                          exact ⟨_, selP [] _, _, RetEv.one rfl (REv.tmp rfl (.refl _)), rfl, sel_perm [] _, ⟨by congr 3; simp at *; unfold argsN; (repeat' split) <;> omega, rfl⟩⟩
              · try (exfalso; simp at *; omega; done)
                all_goals
                  refine J.seq ?_
                  refine J.region_lit ?_
                  refine JL.q rfl rfl rfl (QW.eql (.tmp rfl) .const) ?_
                  refine JL.q rfl rfl rfl (QW.assign (.tmp rfl)) ?_
                  refine JL.nil ?_
                  refine thenQ.n ?_
                  refine J.cond (.tmp rfl) (fun c5 => ?_) (fun c5 => ?_)
                  · try (exfalso; simp at *; omega; done)
                    all_goals
                      refine J.skip ?_
                      refine thenQ.n ?_
                      refine J.cond (.tmp rfl) (fun c6 => ?_) (fun c6 => ?_)
                      · try (exfalso; simp at *; omega; done)
                        all_goals
                          refine J.seq ?_
                          refine J.region_lit ?_
                          refine JL.q rfl rfl rfl (QW.assign .const) ?_
                          refine JL.nil ?_
                          refine thenQ.n ?_
                          refine J.ret ?_
                          refine blkQ.r ?_
                          refine thenQ.r ?_
                          exact ⟨_, selP [] _, _, RetEv.one rfl (REv.tmp rfl (.refl _)), rfl, sel_perm [] _, ⟨by congr 3; simp at *; unfold argsN; (repeat' split) <;> omega, rfl⟩⟩
                      · try (exfalso; simp at *; omega; done)
                        all_goals
                          refine J.seq ?_
                          refine J.region_lit ?_
                          refine JL.q rfl rfl rfl (QW.eql (.tmp rfl) .const) ?_
                          refine JL.q rfl rfl rfl (QW.assign (.tmp rfl)) ?_
                          refine JL.nil ?_
                          refine thenQ.n ?_
                          refine J.cond (.tmp rfl) (fun c7 => ?_) (fun c7 => ?_)
                          · try (exfalso; simp at *; omega; done)
                            all_goals
                              refine J.seq ?_
                              refine J.region_lit ?_
                              refine JL.q rfl rfl rfl (QW.assign .const) ?_
                              refine JL.nil ?_
                              refine thenQ.n ?_
                              refine J.ret ?_
                              refine blkQ.r ?_
                              refine thenQ.r ?_
                              exact ⟨_, selP [] _, _, RetEv.one rfl (REv.tmp rfl (.refl _)), rfl, sel_perm [] _, ⟨by congr 3; simp at *; unfold argsN; (repeat' split) <;> omega, rfl⟩⟩
                          · try (exfalso; simp at *; omega; done)
                            all_goals
                              refine J.skip ?_
                              refine blkQ.n ?_
                              refine thenQ.n ?_
                              refine J.seq ?_
                              refine J.region_lit ?_
                              refine JL.q rfl rfl rfl (QW.assign .const) ?_
                              refine JL.nil ?_
                              refine thenQ.n ?_
                              refine J.ret ?_
                              exact ⟨_, selP [] _, _, RetEv.one rfl (REv.tmp rfl (.refl _)), rfl, sel_perm [] _, ⟨by congr 3; simp at *; unfold argsN; (repeat' split) <;> omega, rfl⟩⟩
                  · try (exfalso; simp at *; omega; done)
                    all_goals
                      refine J.seq ?_
                      refine J.region_lit ?_
                      refine JL.q rfl rfl rfl (QW.eql (.tmp rfl) .const) ?_
                      refine JL.q rfl rfl rfl (QW.assign (.tmp rfl)) ?_
                      refine JL.nil ?_
                      refine thenQ.n ?_
                      refine J.cond (.tmp rfl) (fun c6 => ?_) (fun c6 => ?_)
                      · try (exfalso; simp at *; omega; done)
                        all_goals
                          refine J.skip ?_
                          refine thenQ.n ?_
                          refine J.cond (.tmp rfl) (fun c7 => ?_) (fun c7 => ?_)
                          · try (exfalso; simp at *; omega; done)
                            all_goals
                              refine J.seq ?_
                              refine J.region_lit ?_
                              refine JL.q rfl rfl rfl (QW.assign .const) ?_
                              refine JL.nil ?_
                              refine thenQ.n ?_
                              refine J.ret ?_
                              refine blkQ.r ?_
                              refine thenQ.r ?_
                              exact ⟨_, selP [] _, _, RetEv.one rfl (REv.tmp rfl (.refl _)), rfl, sel_perm [] _, ⟨by congr 3; simp at *; unfold argsN; (repeat' split) <;> omega, rfl⟩⟩
                          · try (exfalso; simp at *; omega; done)
                            all_goals
                              refine J.seq ?_
                              refine J.region_lit ?_
                              refine JL.q rfl rfl rfl (QW.eql (.tmp rfl) .const) ?_
                              refine JL.q rfl rfl rfl (QW.assign (.tmp rfl)) ?_
                              refine JL.nil ?_
                              refine thenQ.n ?_
                              refine J.cond (.tmp rfl) (fun c8 => ?_) (fun c8 => ?_)
                              · try (exfalso; simp at *; omega; done)
                                all_goals
                                  refine J.seq ?_
                                  refine J.region_lit ?_
                                  refine JL.q rfl rfl rfl (QW.assign .const) ?_
                                  refine JL.nil ?_
                                  refine thenQ.n ?_
                                  refine J.ret ?_
                                  refine blkQ.r ?_
                                  refine thenQ.r ?_
                                  exact ⟨_, selP [] _, _, RetEv.one rfl (REv.tmp rfl (.refl _)), rfl, sel_perm [] _, ⟨by congr 3; simp at *; unfold argsN; (repeat' split) <;> omega, rfl⟩⟩
                              · try (exfalso; simp at *; omega; done)
                                all_goals
                                  refine J.skip ?_
                                  refine blkQ.n ?_
                                  refine thenQ.n ?_
                                  refine J.seq ?_
                                  refine J.region_lit ?_
                                  refine JL.q rfl rfl rfl (QW.assign .const) ?_
                                  refine JL.nil ?_
                                  refine thenQ.n ?_
                                  refine J.ret ?_
                                  exact ⟨_, selP [] _, _, RetEv.one rfl (REv.tmp rfl (.refl _)), rfl, sel_perm [] _, ⟨by congr 3; simp at *; unfold argsN; (repeat' split) <;> omega, rfl⟩⟩
                      · try (exfalso; simp at *; omega; done)
                        all_goals
                          refine J.seq ?_
                          refine J.region_lit ?_
                          refine JL.q rfl rfl rfl (QW.eql (.tmp rfl) .const) ?_
                          refine JL.q rfl rfl rfl (QW.assign (.tmp rfl)) ?_
                          refine JL.nil ?_
                          refine thenQ.n ?_
                          refine J.cond (.tmp rfl) (fun c7 => ?_) (fun c7 => ?_)
                          · try (exfalso; simp at *; omega; done)
                            all_goals
                              refine J.skip ?_
                              refine thenQ.n ?_
                              refine J.cond (.tmp rfl) (fun c8 => ?_) (fun c8 => ?_)
                              · try (exfalso; simp at *; omega; done)
                                all_goals
                                  refine J.seq ?_
                                  refine J.region_lit ?_
                                  refine JL.q rfl rfl rfl (QW.assign .const) ?_
                                  refine JL.nil ?_
                                  refine thenQ.n ?_
                                  refine J.ret ?_
                                  refine blkQ.r ?_
                                  refine thenQ.r ?_
                                  exact ⟨_, selP [] _, _, RetEv.one rfl (REv.tmp rfl (.refl _)), rfl, sel_perm [] _, ⟨by congr 3; simp at *; unfold argsN; (repeat' split) <;> omega, rfl⟩⟩
                              · try (exfalso; simp at *; omega; done)
                                all_goals
                                  refine J.seq ?_
                                  refine J.region_lit ?_
                                  refine JL.q rfl rfl rfl (QW.eql (.tmp rfl) .const) ?_
                                  refine JL.q rfl rfl rfl (QW.assign (.tmp rfl)) ?_
                                  refine JL.nil ?_
                                  refine thenQ.n ?_
                                  refine J.cond (.tmp rfl) (fun c9 => ?_) (fun c9 => ?_)
                                  · try (exfalso; simp at *; omega; done)
                                    all_goals
                                      refine J.seq ?_
                                      refine J.region_lit ?_
                                      refine JL.q rfl rfl rfl (QW.assign .const) ?_
                                      refine JL.nil ?_
                                      refine thenQ.n ?_
                                      refine J.ret ?_
                                      refine blkQ.r ?_
                                      refine thenQ.r ?_
                                      exact ⟨_, selP [] _, _, RetEv.one rfl (REv.tmp rfl (.refl _)), rfl, sel_perm [] _, ⟨by congr 3; simp at *; unfold argsN; (repeat' split) <;> omega, rfl⟩⟩
                                  · try (exfalso; simp at *; omega; done)
                                    all_goals
                                      refine J.skip ?_
                                      refine blkQ.n ?_
                                      refine thenQ.n ?_
                                      refine J.seq ?_
                                      refine J.region_lit ?_
                                      refine JL.q rfl rfl rfl (QW.assign .const) ?_
                                      refine JL.nil ?_
                                      refine thenQ.n ?_
                                      refine J.ret ?_
                                      exact ⟨_, selP [] _, _, RetEv.one rfl (REv.tmp rfl (.refl _)), rfl, sel_perm [] _, ⟨by congr 3; simp at *; unfold argsN; (repeat' split) <;> omega, rfl⟩⟩
                          · try (exfalso; simp at *; omega; done)
                            all_goals
                              refine J.region_lit ?_
                              refine JL.q rfl rfl rfl (QW.eql (.tmp rfl) .const) ?_
                              refine JL.q rfl rfl rfl (QW.assign (.tmp rfl)) ?_
                              refine JL.nil ?_
                              refine thenQ.n ?_
                              refine J.cond (.tmp rfl) (fun c8 => ?_) (fun c8 => ?_)
                              · try (exfalso; simp at *; omega; done)
                                all_goals
                                  refine J.seq ?_
                                  refine J.region_lit ?_
                                  refine JL.q rfl rfl rfl (QW.assign .const) ?_
                                  refine JL.nil ?_
                                  refine thenQ.n ?_
                                  refine J.ret ?_
                                  refine blkQ.r ?_
                                  refine thenQ.r ?_
                                  exact ⟨_, selP [] _, _, RetEv.one rfl (REv.tmp rfl (.refl _)), rfl, sel_perm [] _, ⟨by congr 3; simp at *; unfold argsN; (repeat' split) <;> omega, rfl⟩⟩
                              · try (exfalso; simp at *; omega; done)
                                all_goals
                                  refine J.seq ?_
                                  refine J.region_lit ?_
                                  refine JL.q rfl rfl rfl (QW.eql (.tmp rfl) .const) ?_
                                  refine JL.q rfl rfl rfl (QW.assign (.tmp rfl)) ?_
                                  refine JL.nil ?_
                                  refine thenQ.n ?_
                                  refine J.cond (.tmp rfl) (fun c9 => ?_) (fun c9 => ?_)
                                  · try (exfalso; simp at *; omega; done)
                                    all_goals
                                      refine J.seq ?_
                                      refine J.region_lit ?_
                                      refine JL.q rfl rfl rfl (QW.assign .const) ?_
                                      refine JL.nil ?_
                                      refine thenQ.n ?_
                                      refine J.ret ?_
                                      refine blkQ.r ?_
                                      refine thenQ.r ?_
                                      exact ⟨_, selP [] _, _, RetEv.one rfl (REv.tmp rfl (.refl _)), rfl, sel_perm [] _, ⟨by congr 3; simp at *; unfold argsN; (repeat' split) <;> omega, rfl⟩⟩
                                  · try (exfalso; simp at *; omega; done)
                                    all_goals
                                      refine J.skip ?_
                                      refine blkQ.n ?_
                                      refine thenQ.n ?_
                                      refine J.seq ?_
                                      refine J.region_lit ?_
                                      refine JL.q rfl rfl rfl (QW.assign .const) ?_
                                      refine JL.nil ?_
                                      refine thenQ.n ?_
                                      refine J.ret ?_
                                      exact ⟨_, selP [] _, _, RetEv.one rfl (REv.tmp rfl (.refl _)), rfl, sel_perm [] _, ⟨by congr 3; simp at *; unfold argsN; (repeat' split) <;> omega, rfl⟩⟩
theorem rtexts_ok (o : Int) : Fn Try.prog 42 [.c (.int .i64 o)] (.tup [.c (.int .i64 (textLo o)), .c (.int .i64 (textHi o))]) := by
  refine AC.of_J Try.func42 rfl Try.ntmps42 rfl fun w0 A0 => ?_
  refine J.seq ?_
  refine J.region_lit ?_
  refine JL.q rfl rfl rfl (QW.assign .const) ?_
  refine JL.q rfl rfl rfl (QW.assign .const) ?_
  refine JL.nil ?_
  refine thenQ.n ?_
  refine J.seq ?_
  refine J.seq ?_
  refine J.region_lit ?_
  refine JL.q rfl rfl rfl (QW.move (.tmp rfl)) ?_
  refine JL.nil ?_
  refine thenQ.n ?_
  refine J.block ?_
  refine J.seq ?_
  refine J.region_lit ?_
  refine JL.q rfl rfl rfl (QW.eql (.tmp rfl) .const) ?_
  refine JL.q rfl rfl rfl (QW.assign (.tmp rfl)) ?_
  refine JL.nil ?_
  refine thenQ.n ?_
  refine J.cond (.tmp rfl) (fun c1 => ?_) (fun c1 => ?_)
  · try (exfalso; simp at *; omega; done)
    all_goals
      refine J.seq ?_
      refine J.region_lit ?_
      refine JL.q rfl rfl rfl (QW.assign .const) ?_
      refine JL.q rfl rfl rfl (QW.assign .const) ?_
      refine JL.nil ?_
      refine thenQ.n ?_
      refine J.ret ?_
      refine blkQ.r ?_
      refine thenQ.r ?_
      exact ⟨_, selP [] _, _, RetEv.two rfl (REv.tmp rfl (.refl _)) (REv.tmp rfl (.refl _)), rfl, sel_perm [] _, ⟨by simp at *; unfold textLo textHi; (repeat' split) <;> first | rfl | omega, rfl⟩⟩
  · try (exfalso; simp at *; omega; done)
    all_goals
      refine J.seq ?_
      refine J.seq ?_
      refine J.region_lit ?_
      refine JL.q rfl rfl rfl (QW.eql (.tmp rfl) .const) ?_
      refine JL.q rfl rfl rfl (QW.assign (.tmp rfl)) ?_
      refine JL.nil ?_
      refine thenQ.n ?_
      refine J.cond (.tmp rfl) (fun c2 => ?_) (fun c2 => ?_)
      · try (exfalso; simp at *; omega; done)
        all_goals
          refine J.skip ?_
          refine thenQ.n ?_
          refine J.cond (.tmp rfl) (fun c3 => ?_) (fun c3 => ?_)
          · try (exfalso; simp at *; omega; done)
            all_goals
              refine J.seq ?_
              refine J.region_lit ?_
              refine JL.q rfl rfl rfl (QW.assign .const) ?_
              refine JL.q rfl rfl rfl (QW.assign .const) ?_
              refine JL.nil ?_
              refine thenQ.n ?_
              refine J.ret ?_
              refine blkQ.r ?_
              refine thenQ.r ?_
              exact ⟨_, selP [] _, _, RetEv.two rfl (REv.tmp rfl (.refl _)) (REv.tmp rfl (.refl _)), rfl, sel_perm [] _, ⟨by simp at *; unfold textLo textHi; (repeat' split) <;> first | rfl | omega, rfl⟩⟩
          · try (exfalso; simp at *; omega; done)
            all_goals
              refine J.skip ?_
              refine blkQ.n ?_
              refine thenQ.n ?_
              refine J.seq ?_
              refine J.region_lit ?_
              refine JL.q rfl rfl rfl (QW.assign .const) ?_
              refine JL.q rfl rfl rfl (QW.assign .const) ?_
              refine JL.nil ?_
              refine thenQ.n ?_
              refine J.ret ?_
              exact ⟨_, selP [] _, _, RetEv.two rfl (REv.tmp rfl (.refl _)) (REv.tmp rfl (.refl _)), rfl, sel_perm [] _, ⟨by simp at *; unfold textLo textHi; (repeat' split) <;> first | rfl | omega, rfl⟩⟩
      · try (exfalso; simp at *; omega; done)
        all_goals
          refine J.region_lit ?_
          refine JL.q rfl rfl rfl (QW.eql (.tmp rfl) .const) ?_
          refine JL.q rfl rfl rfl (QW.assign (.tmp rfl)) ?_
          refine JL.nil ?_
          refine thenQ.n ?_
          refine J.cond (.tmp rfl) (fun c3 => ?_) (fun c3 => ?_)
          · try (exfalso; simp at *; omega; done)
            all_goals
              refine J.seq ?_
              refine J.region_lit ?_
              refine JL.q rfl rfl rfl (QW.assign .const) ?_
              refine JL.q rfl rfl rfl (QW.assign .const) ?_
              refine JL.nil ?_
              refine thenQ.n ?_
              refine J.ret ?_
              refine blkQ.r ?_
              refine thenQ.r ?_
              exact ⟨_, selP [] _, _, RetEv.two rfl (REv.tmp rfl (.refl _)) (REv.tmp rfl (.refl _)), rfl, sel_perm [] _, ⟨by simp at *; unfold textLo textHi; (repeat' split) <;> first | rfl | omega, rfl⟩⟩
          · try (exfalso; simp at *; omega; done)
            all_goals
              refine J.skip ?_
              refine blkQ.n ?_
              refine thenQ.n ?_
              refine J.seq ?_
              refine J.region_lit ?_
              refine JL.q rfl rfl rfl (QW.assign .const) ?_
              refine JL.q rfl rfl rfl (QW.assign .const) ?_
              refine JL.nil ?_
              refine thenQ.n ?_
              refine J.ret ?_
              exact ⟨_, selP [] _, _, RetEv.two rfl (REv.tmp rfl (.refl _)) (REv.tmp rfl (.refl _)), rfl, sel_perm [] _, ⟨by simp at *; unfold textLo textHi; (repeat' split) <;> first | rfl | omega, rfl⟩⟩
theorem partOk_mk (o : Int) (b : Nat) (t : List UInt8) (l : List EX) : (EX.mk o b t l).ok = (decide (argsN o ≠ -2) && (argsN o == -1 || ((l.length : Int) == argsN o)) && decide ((l.length : Int) ≤ 8) && decide (textLo o ≤ (t.length : Int)) && decide ((t.length : Int) ≤ textHi o) &&
    (if o = 3 then canonN b == b else b == 0)) := rfl
theorem rpart_arith {q n lo hi tl : Int} {z : Bool} (hq : q = -2 ∨ q = -1 ∨ (0 ≤ q ∧ q ≤ 3)) :
    (decide (q ≠ -2) && (q == -1 || (n == q)) && decide (n ≤ 8) && decide (lo ≤ tl) && decide (tl ≤ hi) && z) = (!((((q == -2) || (decide (0 ≤ q) && (n != q))) || decide (8 < n)) || decide (tl < lo) || decide (hi < tl)) && z) := by
  cases z with
  | false => simp
  | true =>
    rw [Bool.eq_iff_iff]
    simp
    omega
theorem rpart_eq {o : Int} {b : Nat} {t : List UInt8} {l : List EX} {n : Int} (hn : n = (l.length : Int)) :
    (EX.mk o b t l).ok = (!((((argsN o == -2) || (decide (0 ≤ argsN o) && (n != argsN o))) || decide (8 < n)) || decide ((t.length : Int) < textLo o) || decide (textHi o < (t.length : Int))) && (if o = 3 then canonN b == b else b == 0)) := by
  subst hn
  rw [partOk_mk, rpart_arith]
  unfold argsN; (repeat' split) <;> omega
theorem erpart_ok {fr : Bool} {v : EX} {ys : List AV} (hv : Xc fr v ys) (hw : v.wf) : Fn Try.prog 34 [.agg ys] (.c (.bool v.ok)) := by
  obtain ⟨o, b, t, l⟩ := v
  subst hv
  have hb := hw.inv.2.1
  refine AC.of_J Try.func34 rfl Try.ntmps34 rfl fun w0 A0 => ?_
  refine J.seq ?_
  refine J.region_lit ?_
  refine JL.box_agg (.tmp rfl) rfl fun b1 => ?_
  refine JL.q rfl rfl rfl (QW.assign .const) ?_
  refine JL.nil ?_
  refine thenQ.n ?_
  refine J.seq ?_
  refine J.region_lit ?_
  refine JL.q rfl rfl rfl (QW.field_ptr fo25_0 (.tmp rfl) rfl) ?_
  refine JL.q rfl rfl rfl (QW.load_box1 0 ty3 (.tmp rfl) rfl rfl) ?_
  refine JL.q rfl rfl rfl (QW.call gofn41 (.cons (.tmp rfl) .nil) (rargs_ok _)) ?_
  refine JL.q rfl rfl rfl (QW.assign (.tmp rfl)) ?_
  refine JL.nil ?_
  refine thenQ.n ?_
  refine J.seq ?_
  refine J.region_lit ?_
  refine JL.q rfl rfl rfl (QW.field_ptr fo25_0 (.tmp rfl) rfl) ?_
  refine JL.q rfl rfl rfl (QW.load_box1 0 ty3 (.tmp rfl) rfl rfl) ?_
  refine JL.q rfl rfl rfl (QW.call gofn42 (.cons (.tmp rfl) .nil) (rtexts_ok _)) ?_
  refine JL.q rfl rfl rfl (QW.move (.tmp rfl)) ?_
  refine JL.q rfl rfl rfl (QW.extract (.tmp rfl) rfl) ?_
  refine JL.q rfl rfl rfl (QW.extract (.tmp rfl) rfl) ?_
  refine JL.q rfl rfl rfl (QW.assign (.tmp rfl)) ?_
  refine JL.q rfl rfl rfl (QW.assign (.tmp rfl)) ?_
  refine JL.nil ?_
  refine thenQ.n ?_
  refine J.seq ?_
  refine J.seq ?_
  refine J.region_lit ?_
  refine JL.q rfl rfl rfl (QW.move (.tmp rfl)) ?_
  refine JL.q rfl rfl rfl (QW.eql (.tmp rfl) .const) ?_
  refine JL.q rfl rfl rfl (QW.move (.tmp rfl)) ?_
  refine JL.g rfl rfl rfl rfl rfl (fun hg => (QW.move (.tmp rfl))) ?_
  refine JL.g rfl rfl rfl rfl rfl (fun hg => (QW.geq (.when rfl hg) .const)) ?_
  refine JL.g rfl rfl rfl rfl rfl (fun hg => (QW.move (.when rfl hg))) ?_
  refine JL.gg rfl rfl rfl rfl rfl (fun hg => (QW.field_ptr fo25_3 (.tmp rfl) rfl)) ?_
  refine JL.gg rfl rfl rfl rfl rfl (fun hg => (QW.load_box1 0 ty23 (.when rfl hg) rfl rfl)) ?_
  refine JL.gg rfl rfl rfl rfl rfl (fun hg => (by first | exact QW.len_sl sl23 (.when rfl hg) | exact QW.len_nil sl23 (.when rfl hg))) ?_
  refine JL.gg rfl rfl rfl rfl rfl (fun hg => (QW.move (.tmp rfl))) ?_
  refine JL.gg rfl rfl rfl rfl rfl (fun hg => (QW.neq (.when rfl hg) (.when rfl hg))) ?_
  refine JL.g rfl rfl rfl rfl rfl (fun hg => (by first | exact QW.pick_and (.when rfl hg) (.tmp rfl) | exact QW.pick_and2 hg (.when rfl hg) (.tmp rfl))) ?_
  refine JL.q rfl rfl rfl (QW.pick_or (.tmp rfl) (.tmp rfl)) ?_
  refine JL.q rfl rfl rfl (QW.move (.tmp rfl)) ?_
  refine JL.g rfl rfl rfl rfl rfl (fun hg => (QW.field_ptr fo25_3 (.tmp rfl) rfl)) ?_
  refine JL.g rfl rfl rfl rfl rfl (fun hg => (QW.load_box1 0 ty23 (.when rfl hg) rfl rfl)) ?_
  refine JL.g rfl rfl rfl rfl rfl (fun hg => (by first | exact QW.len_sl sl23 (.when rfl hg) | exact QW.len_nil sl23 (.when rfl hg))) ?_
  refine JL.g rfl rfl rfl rfl rfl (fun hg => (QW.gtr (.when rfl hg) .const)) ?_
  refine JL.q rfl rfl rfl (QW.pick_or (.tmp rfl) (.tmp rfl)) ?_
  refine JL.q rfl rfl rfl (QW.move (.tmp rfl)) ?_
  refine JL.g rfl rfl rfl rfl rfl (fun hg => (QW.field_ptr fo25_2 (.tmp rfl) rfl)) ?_
  refine JL.g rfl rfl rfl rfl rfl (fun hg => (QW.load_box1 0 ty9 (.when rfl hg) rfl rfl)) ?_
  refine JL.g rfl rfl rfl rfl rfl (fun hg => (QW.len_s st9 (.when rfl hg))) ?_
  refine JL.g rfl rfl rfl rfl rfl (fun hg => (QW.move (.tmp rfl))) ?_
  refine JL.g rfl rfl rfl rfl rfl (fun hg => (QW.lss (.when rfl hg) (.when rfl hg))) ?_
  refine JL.q rfl rfl rfl (QW.pick_or (.tmp rfl) (.tmp rfl)) ?_
  refine JL.q rfl rfl rfl (QW.move (.tmp rfl)) ?_
  refine JL.g rfl rfl rfl rfl rfl (fun hg => (QW.field_ptr fo25_2 (.tmp rfl) rfl)) ?_
  refine JL.g rfl rfl rfl rfl rfl (fun hg => (QW.load_box1 0 ty9 (.when rfl hg) rfl rfl)) ?_
  refine JL.g rfl rfl rfl rfl rfl (fun hg => (QW.len_s st9 (.when rfl hg))) ?_
  refine JL.g rfl rfl rfl rfl rfl (fun hg => (QW.move (.tmp rfl))) ?_
  refine JL.g rfl rfl rfl rfl rfl (fun hg => (QW.gtr (.when rfl hg) (.when rfl hg))) ?_
  refine JL.q rfl rfl rfl (QW.pick_or (.tmp rfl) (.tmp rfl)) ?_
  refine JL.nil ?_
  refine thenQ.n ?_
  refine J.cond (.tmp rfl) (fun c1 => ?_) (fun c1 => ?_)
  · skip
    refine J.seq ?_
    refine J.region_lit ?_
    refine JL.q rfl rfl rfl (QW.assign .const) ?_
    refine JL.nil ?_
    refine thenQ.n ?_
    refine J.ret ?_
    refine thenQ.r ?_
    exact ⟨_, selP [.k] _, _, RetEv.one rfl (REv.tmp rfl (.refl _)), rfl, sel_perm [.k] _, ⟨by rw [rpart_eq (n := ((EX.css fr l).length : Int)) (by rw [EX.css_length]), c1]; rfl, rfl⟩⟩
  · skip
    refine J.skip ?_
    refine thenQ.n ?_
    refine J.seq ?_
    refine J.seq ?_
    refine J.region_lit ?_
    refine JL.q rfl rfl rfl (QW.field_ptr fo25_0 (.tmp rfl) rfl) ?_
    refine JL.q rfl rfl rfl (QW.load_box1 0 ty3 (.tmp rfl) rfl rfl) ?_
    refine JL.q rfl rfl rfl (QW.eql (.tmp rfl) .const) ?_
    refine JL.nil ?_
    refine thenQ.n ?_
    refine J.cond (.tmp rfl) (fun c2 => ?_) (fun c2 => ?_)
    · skip
      have h3 : o = 3 := by simpa using c2
      refine J.seq ?_
      refine J.region_tailK 5 mixed (by kernel_rfl) (by kernel_rfl) (by kernel_rfl) rfl ?_
      refine .cons [] rfl rfl rfl (.q rfl (QW.field_ptr fo25_1 (.tmp rfl) rfl)) ?_
      refine .cons [51] rfl rfl rfl (.q rfl (QW.load_box1 0 ty22 (.tmp rfl) rfl rfl)) ?_
      refine .cons [52] rfl rfl rfl (.q rfl (QW.call gofn43 (.cons (.tmp rfl) .nil) (rcanon_ok _ (by assumption)))) ?_
      refine .cons [] rfl rfl rfl (.q rfl (QW.field_ptr fo25_1 (.tmp rfl) rfl)) ?_
      refine .cons [54] rfl rfl rfl (.q rfl (QW.load_box1 0 ty22 (.tmp rfl) rfl rfl)) ?_
      refine .nil ?_
      refine JL.q rfl rfl rfl (QW.eql (.tmp rfl) (.tmp rfl)) ?_
      refine JL.q rfl rfl rfl (QW.assign (.tmp rfl)) ?_
      refine JL.nil ?_
      refine thenQ.n ?_
      refine J.ret ?_
      refine thenQ.r ?_
      exact ⟨_, selP [.k] _, _, RetEv.one rfl (REv.tmp rfl (.refl _)), rfl, sel_perm [.k] _, ⟨by rw [rpart_eq (n := ((EX.css fr l).length : Int)) (by rw [EX.css_length]), c1, if_pos h3]; congr 3; rw [Bool.eq_iff_iff]; simp; omega, rfl⟩⟩
    · skip
      have h3 : ¬ o = 3 := by simpa using c2
      refine J.skip ?_
      refine thenQ.n ?_
      refine J.seq ?_
      refine J.region_lit ?_
      refine JL.q rfl rfl rfl (QW.field_ptr fo25_1 (.tmp rfl) rfl) ?_
      refine JL.q rfl rfl rfl (QW.load_box1 0 ty22 (.tmp rfl) rfl rfl) ?_
      refine JL.q rfl rfl rfl (QW.eql (.tmp rfl) .const) ?_
      refine JL.q rfl rfl rfl (QW.assign (.tmp rfl)) ?_
      refine JL.nil ?_
      refine thenQ.n ?_
      refine J.ret ?_
      exact ⟨_, selP [.k] _, _, RetEv.one rfl (REv.tmp rfl (.refl _)), rfl, sel_perm [.k] _, ⟨by rw [rpart_eq (n := ((EX.css fr l).length : Int)) (by rw [EX.css_length]), c1, if_neg h3]; congr 3; rw [Bool.eq_iff_iff]; simp, rfl⟩⟩
end Go.Proofs.Ytlppnhkjonmniaa.J

/- Walks: both walks over an expression. -/
namespace Go.Proofs.Ytlppnhkjonmniaa.J
open Go Go.RowKit
set_option linter.unusedVariables false
set_option linter.unusedSimpArgs false
set_option maxRecDepth 10000
set_option maxHeartbeats 4000000
theorem EX.chks_cons {is : List EX} {j : Nat} (h : j < is.length) (lev n : Int) : EX.chks (is.drop j) lev n = if (EX.chk is[j] (lev + 1) n).1 ≠ 0 then EX.chk is[j] (lev + 1) n else EX.chks (is.drop (j + 1)) lev (EX.chk is[j] (lev + 1) n).2 := by
  rw [List.drop_eq_getElem_cons h, EX.chks]
theorem EX.depths_cons {is : List EX} {j : Nat} (h : j < is.length) : EX.depths (is.drop j) = max is[j].depth (EX.depths (is.drop (j + 1))) := by
  rw [List.drop_eq_getElem_cons h, EX.depths]
def EWalkR (v : EX) (lev n : Int) : AV → List Own → Prop := fun x o => o = [] ∧ ∃ p d : Int, x = .tup [.c (.int .i64 p), .c (.int .i64 d), .c (.int .i64 (v.chk lev n).1)] ∧ ((v.chk lev n).1 = 0 → p = (v.chk lev n).2 ∧ d = lev + v.depth - 1)
theorem EWalkR.mk {v : EX} {lev n p d e : Int} (he : e = (v.chk lev n).1) (h : (v.chk lev n).1 = 0 → p = (v.chk lev n).2 ∧ d = lev + v.depth - 1) : RetR (EWalkR v lev n) (.ret (.tup [.c (.int .i64 p), .c (.int .i64 d), .c (.int .i64 e)])) [] :=
  ⟨_, rfl, rfl, p, d, by rw [he], h⟩
theorem erwalk_n  : ∀ (n : Nat) {v : EX} {ys : List AV} {fr : Bool} {lev p : Int}, Xc fr v ys → v.wf → 1 ≤ lev ∧ lev ≤ 9 → 0 ≤ p ∧ p ≤ 64 → v.sz ≤ n →
    AC Try.prog 24 [] [.agg ys, .c (.int .i64 lev), .c (.int .i64 p)] (RetR (EWalkR v lev p)) := by
  intro n
  induction n with
  | zero => intro v ys fr lev p hv hw hl hp h; exact absurd h (by have := EX.sz_pos v; omega)
  | succ n ih =>
    intro v ys fr lev p hv hw hl hp hn
    obtain ⟨o, b, t, is⟩ := v
    subst hv
    obtain ⟨-, -, -, hi80, hwi⟩ := hw.inv
    have hi64 : is.length ≤ 9223372036854775806 := by unfold reach at hi80; omega
    refine AC.of_J Try.func24 rfl Try.ntmps24 rfl fun w0 A0 => ?_
    refine J.seq ?_
    refine J.region_lit ?_
    refine JL.box_agg (.tmp rfl) rfl fun b3 => ?_
    refine JL.q rfl rfl rfl (QW.assign .const) ?_
    refine JL.q rfl rfl rfl (QW.assign .const) ?_
    refine JL.q rfl rfl rfl (QW.assign .const) ?_
    refine JL.nil ?_
    refine thenQ.n ?_
    refine J.seq ?_
    refine J.block ?_
    refine J.seq ?_
    refine J.region_lit ?_
    refine JL.q rfl rfl rfl (QW.move (.tmp rfl)) ?_
    refine JL.q rfl rfl rfl (QW.gtr (.tmp rfl) .const) ?_
    refine JL.q rfl rfl rfl (QW.assign (.tmp rfl)) ?_
    refine JL.nil ?_
    refine thenQ.n ?_
    refine J.cond (.tmp rfl) (fun c1 => ?_) (fun c1 => ?_)
    · skip
      simp at c1
      refine J.seq ?_
      refine J.region_lit ?_
      refine JL.q rfl rfl rfl (QW.move (.tmp rfl)) ?_
      refine JL.q rfl rfl rfl (QW.move (.tmp rfl)) ?_
      refine JL.q rfl rfl rfl (QW.assign (.tmp rfl)) ?_
      refine JL.q rfl rfl rfl (QW.assign (.tmp rfl)) ?_
      refine JL.q rfl rfl rfl (QW.assign .const) ?_
      refine JL.nil ?_
      refine thenQ.n ?_
      refine J.ret ?_
      refine blkQ.r ?_
      refine thenQ.r ?_
      exact ⟨_, selP [.k] _, _, RetEv.three rfl (REv.tmp rfl (.refl _)) (REv.tmp rfl (.refl _)) (REv.tmp rfl (.refl _)), rfl, sel_perm [.k] _, EWalkR.mk (by simp [EX.chk, c1]) (fun h => by simp [EX.chk, c1] at h)⟩
    · skip
      simp at c1
      refine J.seq ?_
      refine J.region_lit ?_
      refine JL.q rfl rfl rfl (QW.move (.tmp rfl)) ?_
      refine JL.q rfl rfl rfl (QW.geq (.tmp rfl) .const) ?_
      refine JL.q rfl rfl rfl (QW.assign (.tmp rfl)) ?_
      refine JL.nil ?_
      refine thenQ.n ?_
      refine J.cond (.tmp rfl) (fun c2 => ?_) (fun c2 => ?_)
      · skip
        simp at c2
        refine J.seq ?_
        refine J.region_lit ?_
        refine JL.q rfl rfl rfl (QW.move (.tmp rfl)) ?_
        refine JL.q rfl rfl rfl (QW.move (.tmp rfl)) ?_
        refine JL.q rfl rfl rfl (QW.assign (.tmp rfl)) ?_
        refine JL.q rfl rfl rfl (QW.assign (.tmp rfl)) ?_
        refine JL.q rfl rfl rfl (QW.assign .const) ?_
        refine JL.nil ?_
        refine thenQ.n ?_
        refine J.ret ?_
        refine blkQ.r ?_
        refine thenQ.r ?_
        exact ⟨_, selP [.k] _, _, RetEv.three rfl (REv.tmp rfl (.refl _)) (REv.tmp rfl (.refl _)) (REv.tmp rfl (.refl _)), rfl, sel_perm [.k] _, EWalkR.mk (by simp [EX.chk, show ¬ 8 < lev by omega, c2]) (fun h => by simp [EX.chk, show ¬ 8 < lev by omega, c2] at h)⟩
      · skip
        simp at c2
        refine J.seq ?_
        refine J.region_lit ?_
        refine JL.q rfl rfl rfl (by first | exact QW.load_box 0 ty25 (.tmp rfl) rfl rfl rfl | exact QW.load_box 0 ty25 (.tmp rfl) rfl (take_at (EX.cs_length _ _) rfl) (EX.cs_length _ _)) ?_
        refine JL.q rfl rfl rfl (QW.call gofn34 (.cons (.tmp rfl) .nil) (erpart_ok Xc.mk hw)) ?_
        refine JL.q rfl rfl rfl (QW.not (.tmp rfl)) ?_
        refine JL.q rfl rfl rfl (QW.assign (.tmp rfl)) ?_
        refine JL.nil ?_
        refine thenQ.n ?_
        refine J.cond (.tmp rfl) (fun c3 => ?_) (fun c3 => ?_)
        · skip
          simp at c3
          refine J.seq ?_
          refine J.region_lit ?_
          refine JL.q rfl rfl rfl (QW.move (.tmp rfl)) ?_
          refine JL.q rfl rfl rfl (QW.move (.tmp rfl)) ?_
          refine JL.q rfl rfl rfl (QW.assign (.tmp rfl)) ?_
          refine JL.q rfl rfl rfl (QW.assign (.tmp rfl)) ?_
          refine JL.q rfl rfl rfl (QW.assign .const) ?_
          refine JL.nil ?_
          refine thenQ.n ?_
          refine J.ret ?_
          refine blkQ.r ?_
          refine thenQ.r ?_
          exact ⟨_, selP [.k] _, _, RetEv.three rfl (REv.tmp rfl (.refl _)) (REv.tmp rfl (.refl _)) (REv.tmp rfl (.refl _)), rfl, sel_perm [.k] _, EWalkR.mk (by simp [EX.chk, show ¬ 8 < lev by omega, show ¬ 64 ≤ p by omega, c3]) (fun h => by simp [EX.chk, show ¬ 8 < lev by omega, show ¬ 64 ≤ p by omega, c3] at h)⟩
        · skip
          simp at c3
          refine J.skip ?_
          refine blkQ.n ?_
          refine thenQ.n ?_
          refine J.seq ?_
          refine J.region_lit ?_
          refine JL.q rfl rfl rfl (QW.move (.tmp rfl)) ?_
          refine JL.q rfl rfl rfl (QW.add (.tmp rfl) .const (by first | exact w64n (by first | rfl | omega | (simp; done)) (by omega) | exact w64 (by omega) | rfl)) ?_
          refine JL.q rfl rfl rfl (QW.assign (.tmp rfl)) ?_
          refine JL.nil ?_
          refine thenQ.n ?_
          refine J.seq ?_
          refine J.region_lit ?_
          refine JL.q rfl rfl rfl (QW.move (.tmp rfl)) ?_
          refine JL.q rfl rfl rfl (QW.assign (.tmp rfl)) ?_
          refine JL.nil ?_
          refine thenQ.n ?_
          refine J.seq ?_
          refine J.seq ?_
          refine J.region_lit ?_
          refine JL.q rfl rfl rfl (QW.assign .const) ?_
          refine JL.nil ?_
          refine thenQ.n ?_
          refine J.block ?_
          have hck : EX.chk (.mk o b t is) lev p = EX.chks is lev (p + 1) := by unfold EX.chk; rw [if_neg (by omega), if_neg (by omega), if_neg (by simp [c3])]
          refine J.loopK (ι := Nat × Int × Int) [1, 3] (fun ⟨j, q, e⟩ => [(10, .c (.int .i64 (j : Int))), (2, .c (.int .i64 q)), (9, .c (.int .i64 e))]) (fun _ oo => oo) (fun ⟨j, q, e⟩ => j ≤ is.length ∧ EX.chks is lev (p + 1) = EX.chks (is.drop j) lev q ∧ max e (lev + EX.depths (is.drop j)) = lev + EX.depths is ∧ (0 ≤ q ∧ q ≤ 64 ∧ lev ≤ e)) (fun ⟨j, q, e⟩ => is.length - j) ⟨0, p + 1, lev⟩ (⟨Nat.zero_le _, rfl, by have := EX.depths_nonneg is; rw [List.drop_zero]; omega, by omega⟩) (Wk.re (.cons rfl (.refl _) (.cons rfl (.refl _) (.cons rfl (.refl _) (.cons rfl (.refl _) (.cons rfl (.refl _) .nil))))) (Reown.refl _) (fun _ h => by first | exact h | simp [h])) ?_
          intro ⟨j, q, e⟩ ⟨hj, hcs, hde, hq⟩
          refine J.conv (by (try simp only [id_eq, stepsO, List.map_cons, List.map_nil, valO, nthO, curO, mrg, List.reverse_cons, List.reverse_nil, List.nil_append, List.cons_append, List.append_nil, List.getElem?_cons_zero, List.getElem?_cons_succ, Option.map_some, Option.getD_some, List.set_cons_zero, List.set_cons_succ, AV.cellsOf, splice_zero, splice_succ, Nat.zero_add, Nat.reduceAdd]); rfl) ?_
          refine J.seq ?_
          refine J.seq ?_
          refine J.region_lit ?_
          refine JL.q rfl rfl rfl (QW.move (.tmp rfl)) ?_
          refine JL.q rfl rfl rfl (QW.field_ptr fo25_3 (.tmp rfl) rfl) ?_
          refine JL.q rfl rfl rfl (QW.load_box1 0 ty23 (.tmp rfl) rfl rfl) ?_
          refine JL.q rfl rfl rfl (by first | exact QW.len_sl sl23 (.tmp rfl) | exact QW.len_nil sl23 (.tmp rfl)) ?_
          refine JL.q rfl rfl rfl (QW.lss (.tmp rfl) (.tmp rfl)) ?_
          refine JL.nil ?_
          refine thenQ.n ?_
          refine J.cond (.tmp rfl) (fun c4 => ?_) (fun c4 => ?_)
          · skip
            have hlt : j < is.length := by simpa [EX.css_length] using c4
            refine J.skip ?_
            refine thenQ.n ?_
            refine J.seq ?_
            refine J.block ?_
            refine J.seq ?_
            refine J.region_lit ?_
            have hlt : j < is.length := by simpa [EX.css_length] using c4
            refine JL.q rfl rfl rfl (QW.field_ptr fo25_3 (.tmp rfl) rfl) ?_
            refine JL.q rfl rfl rfl (QW.load_box1 0 ty23 (.tmp rfl) rfl rfl) ?_
            refine JL.q rfl rfl rfl (QW.move (.tmp rfl)) ?_
            refine JL.q rfl rfl rfl (QW.index_sl sl23 ty25 rfl (.tmp rfl) (.tmp rfl) (by first | rfl | omega | (simp; done)) (by exact EX.css_getE _ hlt)) ?_
            refine JL.q rfl rfl rfl (by first | exact QW.load_ref ty25 (.tmp rfl) rfl rfl | exact QW.load_ref ty25 (.tmp rfl) (take_at0 (EX.cs_length _ _) rfl) (EX.cs_length _ _)) ?_
            refine JL.q rfl rfl rfl (QW.move (.tmp rfl)) ?_
            refine JL.q rfl rfl rfl (QW.add (.tmp rfl) .const (by first | exact w64n (by first | rfl | omega | (simp; done)) (by omega) | exact w64 (by omega) | rfl)) ?_
            refine JL.q rfl rfl rfl (QW.move (.tmp rfl)) ?_
            refine JL.callRF [] gofn24 rfl Lent.nil (fun _ => (.cons (.tmp rfl) (.cons (.tmp rfl) (.cons (.tmp rfl) .nil)))) (ih (by first | exact Xc.self | exact Xc.mk) (hwi _ (List.getElem_mem _)) (by omega) (by omega) (EX.sz_get hn hlt)) (.inl rfl) fun x49 o49 h49 => ?_
            obtain ⟨rfl, p49, d49, rfl, hp49⟩ := h49
            refine JL.q rfl rfl rfl (QW.move (.tmp rfl)) ?_
            refine JL.q rfl rfl rfl (QW.extract (.tmp rfl) rfl) ?_
            refine JL.q rfl rfl rfl (QW.extract (.tmp rfl) rfl) ?_
            refine JL.q rfl rfl rfl (QW.extract (.tmp rfl) rfl) ?_
            refine JL.q rfl rfl rfl (QW.assign (.tmp rfl)) ?_
            refine JL.q rfl rfl rfl (QW.assign (.tmp rfl)) ?_
            refine JL.q rfl rfl rfl (QW.assign (.tmp rfl)) ?_
            refine JL.nil ?_
            refine thenQ.n ?_
            refine J.seq ?_
            refine J.seq ?_
            refine J.region_lit ?_
            refine JL.q rfl rfl rfl (QW.move (.tmp rfl)) ?_
            refine JL.q rfl rfl rfl (QW.neq (.tmp rfl) .const) ?_
            refine JL.nil ?_
            refine thenQ.n ?_
            refine J.cond (.tmp rfl) (fun c5 => ?_) (fun c5 => ?_)
            · skip
              simp at c5
              refine J.seq ?_
              refine J.region_lit ?_
              refine JL.q rfl rfl rfl (QW.move (.tmp rfl)) ?_
              refine JL.q rfl rfl rfl (QW.move (.tmp rfl)) ?_
              refine JL.q rfl rfl rfl (QW.move (.tmp rfl)) ?_
              refine JL.q rfl rfl rfl (QW.assign (.tmp rfl)) ?_
              refine JL.q rfl rfl rfl (QW.assign (.tmp rfl)) ?_
              refine JL.q rfl rfl rfl (QW.assign (.tmp rfl)) ?_
              refine JL.nil ?_
              refine thenQ.n ?_
              refine J.ret ?_
              refine thenQ.r ?_
              refine blkQ.r ?_
              refine thenQ.r ?_
              refine thenQ.r ?_
              refine blkQ.r ?_
              refine thenQ.r ?_
              rw [EX.chks_cons hlt, if_pos (by simpa using c5)] at hcs
              have he := hck.trans hcs
              exact ⟨_, selP [.k] _, _, RetEv.three rfl (REv.tmp rfl (.refl _)) (REv.tmp rfl (.refl _)) (REv.tmp rfl (.refl _)), rfl, sel_perm [.k] _, EWalkR.mk (by rw [he]) (fun h => absurd (by rw [he] at h; exact h) c5)⟩
            · skip
              simp at c5
              refine J.skip ?_
              refine thenQ.n ?_
              refine J.region_lit ?_
              refine JL.q rfl rfl rfl (QW.move (.tmp rfl)) ?_
              refine JL.q rfl rfl rfl (QW.move (.tmp rfl)) ?_
              refine JL.q rfl rfl rfl (QW.move (.tmp rfl)) ?_
              refine JL.q rfl rfl rfl (QW.max2 (.tmp rfl) (.tmp rfl)) ?_
              refine JL.q rfl rfl rfl (QW.assign (.tmp rfl)) ?_
              refine JL.q rfl rfl rfl (QW.assign (.tmp rfl)) ?_
              refine JL.nil ?_
              refine blkQ.n ?_
              refine thenQ.n ?_
              refine J.region_lit ?_
              refine JL.q rfl rfl rfl (QW.move (.tmp rfl)) ?_
              refine JL.q rfl rfl rfl (QW.add (.tmp rfl) .const (by first | exact w64n (by first | rfl | omega | (simp; done)) (by omega) | exact w64 (by omega) | rfl)) ?_
              refine JL.q rfl rfl rfl (QW.assign (.tmp rfl)) ?_
              refine JL.nil ?_
              refine thenQ.n ?_
              have hb := EX.chk_bounds is[j] (lev + 1) q
              obtain ⟨hq1, hq2⟩ := hp49 c5
              rw [EX.chks_cons hlt, if_neg (by simp [c5])] at hcs
              rw [EX.depths_cons hlt] at hde
              exact ⟨⟨j + 1, p49, max e d49⟩, ⟨hlt, by rw [hcs, hq1], by omega, by omega⟩, by show is.length - (j + 1) < is.length - j; omega, Wk.re (.cons rfl (.refl _) (.cons rfl (.refl _) (.cons rfl (Le.intE (by simp only [Int.max_def]; split <;> split <;> omega)) (.cons rfl (.refl _) (.cons rfl (.refl _) .nil))))) (Reown.refl _) (fun _ h => by first | exact h | simp [h])⟩
          · skip
            have hge : is.length ≤ j := by simpa [EX.css_length] using c4
            refine J.exit ?_
            refine thenQ.x ?_
            refine thenQ.x ?_
            refine blkQ.hit ?_
            refine thenQ.n ?_
            refine J.seq ?_
            refine J.region_lit ?_
            refine JL.q rfl rfl rfl (QW.move (.tmp rfl)) ?_
            refine JL.q rfl rfl rfl (QW.move (.tmp rfl)) ?_
            refine JL.q rfl rfl rfl (QW.assign (.tmp rfl)) ?_
            refine JL.q rfl rfl rfl (QW.assign (.tmp rfl)) ?_
            refine JL.q rfl rfl rfl (QW.assign .const) ?_
            refine JL.nil ?_
            refine thenQ.n ?_
            refine J.ret ?_
            obtain rfl : j = is.length := by omega
            simp only [List.drop_length, EX.chks, EX.depths] at hcs hde
            have he := hck.trans hcs
            exact ⟨_, selP [.k] _, _, RetEv.three rfl (REv.tmp rfl (.refl _)) (REv.tmp rfl (.refl _)) (REv.tmp rfl (.refl _)), rfl, sel_perm [.k] _, EWalkR.mk (by rw [he]) (fun h => ⟨by rw [he], by unfold EX.depth; omega⟩)⟩
theorem erwalk_ok {v : EX} {ys : List AV} {fr : Bool} {lev p : Int} (hv : Xc fr v ys) (hw : v.wf) (hl : 1 ≤ lev ∧ lev ≤ 9) (hp : 0 ≤ p ∧ p ≤ 64) :
    AC Try.prog 24 [] [.agg ys, .c (.int .i64 lev), .c (.int .i64 p)] (RetR (EWalkR v lev p)) := erwalk_n _ hv hw hl hp (Nat.le_refl _)
def wk (b : Nat) (p d : Int) : Own := .box b [.c (.int .i64 p), .c (.int .i64 d)]
def EWR (v : EX) (lev p d : Int) (bw : Nat) : Res → List Own → Prop := PanR ((v.chk lev p).1 = 0) (errV (v.chk lev p).1) fun x o => x = .tup [] ∧ o = [wk bw (v.chk lev p).2 (max d (lev + v.depth - 1))]
theorem ewalk_n  : ∀ (n : Nat) {v : EX} {ys : List AV} {fr : Bool} {lev p d : Int} {bw : Nat}, Xc fr v ys → v.wf → 1 ≤ lev ∧ lev ≤ 9 → 0 ≤ p ∧ p ≤ 64 → v.sz ≤ n →
    AC Try.prog 23 [wk bw p d] [.c (.pointer (some ⟨bw, 0, none⟩)), .agg ys, .c (.int .i64 lev)] (EWR v lev p d bw) := by
  intro n
  induction n with
  | zero => intro v ys fr lev p d bw hv hw hl hp h; exact absurd h (by have := EX.sz_pos v; omega)
  | succ n ih =>
    intro v ys fr lev p d bw hv hw hl hp hn
    obtain ⟨o, b, t, is⟩ := v
    subst hv
    obtain ⟨-, -, -, hi80, hwi⟩ := hw.inv
    have hi64 : is.length ≤ 9223372036854775806 := by unfold reach at hi80; omega
    refine AC.of_J Try.func23 rfl Try.ntmps23 rfl fun w0 A0 => ?_
    refine J.seq ?_
    refine J.region_lit ?_
    refine JL.box_agg (.tmp rfl) rfl fun b4 => ?_
    refine JL.nil ?_
    refine thenQ.n ?_
    refine J.seq ?_
    refine J.region_lit ?_
    refine JL.q rfl rfl rfl (QW.move (.tmp rfl)) ?_
    refine JL.q rfl rfl rfl (QW.leq (.tmp rfl) .const) ?_
    refine JL.callPF [] gofn32 rfl Lent.nil (fun _ => (.cons (.tmp rfl) (.cons .const .nil))) (need_ok _ _) (.inl rfl) (fun k10 x10 o10 h10 => ?_) (fun k10 => ?_)
    rotate_left
    · skip
      refine thenQ.p ?_
      exact ⟨_, selP [.k, .k] _, _, rfl, rfl, sel_perm [.k, .k] _, PanR.of (by simp [EX.chk, show 8 < lev by simpa using k10]) (by decide)⟩
    obtain ⟨rfl, rfl⟩ := h10
    refine JL.nil ?_
    refine thenQ.n ?_
    refine J.seq ?_
    refine J.region_lit ?_
    have hk10 : lev ≤ 8 := by simpa using k10
    refine JL.q rfl rfl rfl (QW.move (.tmp rfl)) ?_
    refine JL.q rfl rfl rfl (QW.nil_ptr (.tmp rfl)) ?_
    refine JL.q rfl rfl rfl (QW.field_ptr fo53_0 (.tmp rfl) rfl) ?_
    refine JL.q rfl rfl rfl (QW.load_box1 1 ty3 (.tmp rfl) rfl rfl) ?_
    refine JL.q rfl rfl rfl (QW.lss (.tmp rfl) .const) ?_
    refine JL.callPF [] gofn32 rfl Lent.nil (fun _ => (.cons (.tmp rfl) (.cons .const .nil))) (need_ok _ _) (.inl rfl) (fun k16 x16 o16 h16 => ?_) (fun k16 => ?_)
    rotate_left
    · skip
      refine thenQ.p ?_
      exact ⟨_, selP [.k, .k] _, _, rfl, rfl, sel_perm [.k, .k] _, PanR.of (by simp [EX.chk, show ¬ 8 < lev by omega, show 64 ≤ p by simpa using k16]) (by decide)⟩
    obtain ⟨rfl, rfl⟩ := h16
    refine JL.nil ?_
    refine thenQ.n ?_
    refine J.seq ?_
    refine J.region_lit ?_
    have hk16 : p < 64 := by simpa using k16
    refine JL.q rfl rfl rfl (by first | exact QW.load_box 0 ty32 (.tmp rfl) rfl rfl rfl | exact QW.load_box 0 ty32 (.tmp rfl) rfl (take_at (EX.cs_length _ _) rfl) (EX.cs_length _ _)) ?_
    refine JL.q rfl rfl rfl (QW.call gofn33 (.cons (.tmp rfl) .nil) (epart_ok Xc.mk)) ?_
    refine JL.callPF [] gofn32 rfl Lent.nil (fun _ => (.cons (.tmp rfl) (.cons .const .nil))) (need_ok _ _) (.inl rfl) (fun k19 x19 o19 h19 => ?_) (fun k19 => ?_)
    rotate_left
    · skip
      refine thenQ.p ?_
      exact ⟨_, selP [.k, .k] _, _, rfl, rfl, sel_perm [.k, .k] _, PanR.of (by simp [EX.chk, show ¬ 8 < lev by omega, show ¬ 64 ≤ p by omega, show (EX.mk o b t is).ok = false by simpa using k19]) (by decide)⟩
    obtain ⟨rfl, rfl⟩ := h19
    refine JL.nil ?_
    refine thenQ.n ?_
    refine J.seq ?_
    refine J.region_lit ?_
    have hk19 : (EX.mk o b t is).ok = true := k19
    refine JL.q rfl rfl rfl (QW.move (.tmp rfl)) ?_
    refine JL.q rfl rfl rfl (QW.nil_ptr (.tmp rfl)) ?_
    refine JL.q rfl rfl rfl (QW.field_ptr fo53_0 (.tmp rfl) rfl) ?_
    refine JL.q rfl rfl rfl (QW.load_box1 1 ty3 (.tmp rfl) rfl rfl) ?_
    refine JL.q rfl rfl rfl (QW.add (.tmp rfl) .const (by first | exact w64n (by first | rfl | omega | (simp; done)) (by omega) | exact w64 (by omega) | rfl)) ?_
    refine JL.q rfl rfl rfl (QW.nil_ptr (.tmp rfl)) ?_
    refine JL.q rfl rfl rfl (QW.field_ptr fo53_0 (.tmp rfl) rfl) ?_
    refine JL.store_box 1 ty3 (.tmp rfl) rfl (.tmp rfl) (by first | rfl | assumption) rfl rfl rfl rfl ?_
    refine JL.nil ?_
    refine thenQ.n ?_
    refine J.seq ?_
    refine J.region_lit ?_
    refine JL.q rfl rfl rfl (QW.move (.tmp rfl)) ?_
    refine JL.q rfl rfl rfl (QW.move (.tmp rfl)) ?_
    refine JL.q rfl rfl rfl (QW.nil_ptr (.tmp rfl)) ?_
    refine JL.q rfl rfl rfl (QW.field_ptr fo53_1 (.tmp rfl) rfl) ?_
    refine JL.q rfl rfl rfl (QW.load_box1 1 ty3 (.tmp rfl) rfl rfl) ?_
    refine JL.q rfl rfl rfl (QW.move (.tmp rfl)) ?_
    refine JL.q rfl rfl rfl (QW.max2 (.tmp rfl) (.tmp rfl)) ?_
    refine JL.q rfl rfl rfl (QW.nil_ptr (.tmp rfl)) ?_
    refine JL.q rfl rfl rfl (QW.field_ptr fo53_1 (.tmp rfl) rfl) ?_
    refine JL.store_box 1 ty3 (.tmp rfl) rfl (.tmp rfl) (by first | rfl | assumption) rfl rfl rfl rfl ?_
    refine JL.nil ?_
    refine thenQ.n ?_
    refine J.seq ?_
    refine J.region_lit ?_
    refine JL.q rfl rfl rfl (QW.field_ptr fo32_3 (.tmp rfl) rfl) ?_
    refine JL.q rfl rfl rfl (QW.load_box1 0 ty30 (.tmp rfl) rfl rfl) ?_
    refine JL.q rfl rfl rfl (by first | exact QW.len_sl sl30 (.tmp rfl) | exact QW.len_nil sl30 (.tmp rfl)) ?_
    refine JL.q rfl rfl rfl (QW.move .const) ?_
    refine JL.nil ?_
    refine thenQ.n ?_
    refine J.block ?_
    have hck : EX.chk (.mk o b t is) lev p = EX.chks is lev (p + 1) := by unfold EX.chk; rw [if_neg (by omega), if_neg (by omega), if_neg (by simp [hk19])]
    refine J.loopK (ι := Nat × Int × Int) [0, 2, 37, 38] (fun ⟨j, q, e⟩ => [(39, .c (.int .i64 (j : Int)))]) (fun ⟨j, q, e⟩ oo => List.set oo 1 (wk bw q e)) (fun ⟨j, q, e⟩ => j ≤ is.length ∧ EX.chks is lev (p + 1) = EX.chks (is.drop j) lev q ∧ max e (lev + EX.depths (is.drop j)) = max d (lev + EX.depths is) ∧ (0 ≤ q ∧ q ≤ 64 ∧ lev ≤ e)) (fun ⟨j, q, e⟩ => is.length - j) ⟨0, p + 1, if lev > d then lev else d⟩ (⟨Nat.zero_le _, rfl, by have := EX.depths_nonneg is; rw [List.drop_zero]; split <;> omega, by split <;> omega⟩) (Wk.re (.cons rfl (.refl _) (.cons rfl (.refl _) (.cons rfl (.refl _) (.cons rfl (.refl _) (.cons rfl (.refl _) .nil))))) (Reown.refl _) (fun _ h => by first | exact h | simp [h])) ?_
    intro ⟨j, q, e⟩ ⟨hj, hcs, hde, hq⟩
    refine J.conv (by (try simp only [id_eq, stepsO, List.map_cons, List.map_nil, valO, nthO, curO, mrg, List.reverse_cons, List.reverse_nil, List.nil_append, List.cons_append, List.append_nil, List.getElem?_cons_zero, List.getElem?_cons_succ, Option.map_some, Option.getD_some, List.set_cons_zero, List.set_cons_succ, AV.cellsOf, splice_zero, splice_succ, Nat.zero_add, Nat.reduceAdd]); rfl) ?_
    refine J.seq ?_
    refine J.region_lit ?_
    refine JL.q rfl rfl rfl (QW.lss (.tmp rfl) (.tmp rfl)) ?_
    refine JL.nil ?_
    refine thenQ.n ?_
    refine J.seq ?_
    refine J.cond (.tmp rfl) (fun c1 => ?_) (fun c1 => ?_)
    · skip
      have hlt : j < is.length := by simpa [EX.css_length] using c1
      refine J.skip ?_
      refine thenQ.n ?_
      refine J.seq ?_
      refine J.block ?_
      refine J.seq ?_
      refine J.region_lit ?_
      refine JL.q rfl rfl rfl (QW.index_sl sl30 ty32 rfl (.tmp rfl) (.tmp rfl) (by first | rfl | omega | (simp; done)) (by exact EX.css_getE _ hlt)) ?_
      refine JL.q rfl rfl rfl (by first | exact QW.load_ref ty32 (.tmp rfl) rfl rfl | exact QW.load_ref ty32 (.tmp rfl) (take_at0 (EX.cs_length _ _) rfl) (EX.cs_length _ _)) ?_
      refine JL.alloc z32 rfl rfl fun b7 => ?_
      first | refine JL.store_boxF 0 ty32 (.tmp rfl) rfl (.tmp rfl) (by first | rfl | assumption) (rfl) (rfl) rfl ?_ | refine JL.store_boxF 0 ty32 (.tmp rfl) rfl (.tmp rfl) (by first | rfl | assumption) (rfl) (EX.cs_length _ _) rfl ?_ | refine JL.store_boxF 0 ty32 (.tmp rfl) rfl (.tmp rfl) (by first | rfl | assumption) (EX.cs_length _ _) (rfl) rfl ?_ | refine JL.store_boxF 0 ty32 (.tmp rfl) rfl (.tmp rfl) (by first | rfl | assumption) (EX.cs_length _ _) (EX.cs_length _ _) rfl ?_ | refine JL.store_box 0 ty32 (.tmp rfl) rfl (.tmp rfl) (by first | rfl | assumption) rfl rfl rfl rfl ?_ | refine JL.store_box 0 ty32 (.tmp rfl) rfl (.tmp rfl) (by first | rfl | assumption) (EX.cs_length _ _) rfl rfl rfl ?_
      refine JL.nil ?_
      refine thenQ.n ?_
      refine J.region_lit ?_
      refine JL.q rfl rfl rfl (QW.move (.tmp rfl)) ?_
      refine JL.q rfl rfl rfl (by first | exact QW.load_box 0 ty32 (.tmp rfl) rfl rfl rfl | exact QW.load_box 0 ty32 (.tmp rfl) rfl (take_at (EX.cs_length _ _) rfl) (EX.cs_length _ _)) ?_
      refine JL.q rfl rfl rfl (QW.move (.tmp rfl)) ?_
      refine JL.q rfl rfl rfl (QW.add (.tmp rfl) .const (by first | exact w64n (by first | rfl | omega | (simp; done)) (by omega) | exact w64 (by omega) | rfl)) ?_
      refine JL.callPF [.k, .k, .p] gofn23 rfl Lent.nil (fun _ => (.cons (.tmp rfl) (.cons (.tmp rfl) (.cons (.tmp rfl) .nil)))) (ih (by first | exact Xc.self | exact Xc.mk) (hwi _ (List.getElem_mem _)) (by omega) (by omega) (EX.sz_get hn hlt)) (.inl rfl) (fun k47 x47 o47 h47 => ?_) (fun k47 => ?_)
      rotate_left
      · skip
        refine blkQ.p ?_
        refine thenQ.p ?_
        refine thenQ.p ?_
        refine blkQ.p ?_
        rw [EX.chks_cons hlt, if_pos k47] at hcs
        have he := hck.trans hcs
        exact ⟨_, selP [.k, .k] _, _, rfl, rfl, sel_perm [.k, .k] _, PanR.of (by rw [he]) k47⟩
      obtain ⟨rfl, rfl⟩ := h47
      refine JL.nil ?_
      refine blkQ.n ?_
      refine thenQ.n ?_
      refine J.region_lit ?_
      refine JL.q rfl rfl rfl (QW.add (.tmp rfl) .const (by first | exact w64n (by first | rfl | omega | (simp; done)) (by omega) | exact w64 (by omega) | rfl)) ?_
      refine JL.q rfl rfl rfl (QW.move (.tmp rfl)) ?_
      refine JL.nil ?_
      refine thenQ.n ?_
      have hb := EX.chk_bounds is[j] (lev + 1) q
      rw [EX.chks_cons hlt, if_neg (by simp [k47])] at hcs
      rw [EX.depths_cons hlt] at hde
      exact ⟨⟨j + 1, (EX.chk is[j] (lev + 1) q).2, max e (lev + 1 + is[j].depth - 1)⟩, ⟨hlt, hcs, by omega, by omega⟩, by show is.length - (j + 1) < is.length - j; omega, Wk.re (.cons rfl (.refl _) (.cons rfl (.refl _) (.cons rfl (.refl _) (.cons rfl (.refl _) (.cons rfl (.refl _) .nil))))) (Reown.dropN 1 _ rfl) (fun _ h => by first | exact h | simp [h])⟩
    · skip
      have hge : is.length ≤ j := by simpa [EX.css_length] using c1
      refine J.exit ?_
      refine thenQ.x ?_
      refine thenQ.x ?_
      refine blkQ.hit ?_
      obtain rfl : j = is.length := by omega
      simp only [List.drop_length, EX.chks, EX.depths] at hcs hde
      have he := hck.trans hcs
      exact ⟨_, selP [.k, .p] _, _, RetEv.none rfl , rfl, sel_perm [.k, .p] _, PanR.ret (by rw [he]) ⟨rfl, by rw [he]; unfold EX.depth; rw [show max d (lev + (1 + EX.depths is) - 1) = e by omega]; rfl⟩⟩
end Go.Proofs.Ytlppnhkjonmniaa.J

/- Walks: sizes, checks of expressions; are two one. -/
namespace Go.Proofs.Ytlppnhkjonmniaa.J
open Go Go.RowKit
set_option linter.unusedVariables false
set_option linter.unusedSimpArgs false
set_option maxRecDepth 10000
set_option maxHeartbeats 4000000
theorem zeroErrno (w : World) : (zeroValue 27).run Try.prog w = .ok (.int .i64 0) w := by kernel_rfl
def ibox (b : Nat) (n : Int) : Own := .box b [.c (.int .i64 n)]
theorem told_nil (c : Nat) (z : Int) : AC Try.prog 22 [ibox c z] [.c .nilIface, .c (.pointer (some ⟨c, 0, none⟩))] (RetR fun x o => x = .c (.bool false) ∧ o = [ibox c z]) := by
  refine AC.of_J Try.func22 rfl Try.ntmps22 rfl fun w0 A0 => ?_
  refine J.seq ?_
  refine J.region_lit ?_
  refine JL.q rfl rfl rfl (QW.assign .const) ?_
  refine JL.nil ?_
  refine thenQ.n ?_
  refine J.seq ?_
  refine J.region_lit ?_
  refine JL.q rfl rfl rfl (QW.move (.tmp rfl)) ?_
  refine JL.q rfl rfl rfl (QW.assert_nil ⟨_, Try.underlying27, by intro ms h; cases h⟩ zeroErrno (.tmp rfl)) ?_
  refine JL.q rfl rfl rfl (QW.move (.tmp rfl)) ?_
  refine JL.q rfl rfl rfl (QW.extract (.tmp rfl) rfl) ?_
  refine JL.q rfl rfl rfl (QW.extract (.tmp rfl) rfl) ?_
  refine JL.q rfl rfl rfl (QW.assign (.tmp rfl)) ?_
  refine JL.q rfl rfl rfl (QW.assign (.tmp rfl)) ?_
  refine JL.nil ?_
  refine thenQ.n ?_
  refine J.seq ?_
  refine J.seq ?_
  refine J.region_lit ?_
  refine JL.q rfl rfl rfl (QW.move (.tmp rfl)) ?_
  refine JL.nil ?_
  refine thenQ.n ?_
  refine J.cond (.tmp rfl) (fun c1 => absurd c1 (by simp)) (fun c1 => ?_)
  refine J.skip ?_
  refine thenQ.n ?_
  refine J.seq ?_
  refine J.region_lit ?_
  refine JL.q rfl rfl rfl (QW.move (.tmp rfl)) ?_
  refine JL.q rfl rfl rfl (QW.assign (.tmp rfl)) ?_
  refine JL.nil ?_
  refine thenQ.n ?_
  refine J.ret ?_
  exact ⟨_, selP [.p] _, _, RetEv.one rfl (REv.tmp rfl (.refl _)), rfl, sel_perm [.p] _, ⟨_, rfl, rfl, rfl⟩⟩
theorem told_hit (c : Nat) (z e : Int) : AC Try.prog 22 [ibox c z] [.c (errV e), .c (.pointer (some ⟨c, 0, none⟩))] (RetR fun x o => x = .c (.bool true) ∧ o = [ibox c e]) := by
  refine AC.of_J Try.func22 rfl Try.ntmps22 rfl fun w0 A0 => ?_
  refine J.seq ?_
  refine J.region_lit ?_
  refine JL.q rfl rfl rfl (QW.assign .const) ?_
  refine JL.nil ?_
  refine thenQ.n ?_
  refine J.seq ?_
  refine J.region_lit ?_
  refine JL.q rfl rfl rfl (QW.move (.tmp rfl)) ?_
  refine JL.q rfl rfl rfl (QW.assert_hit ⟨_, Try.underlying27, by intro ms h; cases h⟩ (.tmp rfl)) ?_
  refine JL.q rfl rfl rfl (QW.move (.tmp rfl)) ?_
  refine JL.q rfl rfl rfl (QW.extract (.tmp rfl) rfl) ?_
  refine JL.q rfl rfl rfl (QW.extract (.tmp rfl) rfl) ?_
  refine JL.q rfl rfl rfl (QW.assign (.tmp rfl)) ?_
  refine JL.q rfl rfl rfl (QW.assign (.tmp rfl)) ?_
  refine JL.nil ?_
  refine thenQ.n ?_
  refine J.seq ?_
  refine J.seq ?_
  refine J.region_lit ?_
  refine JL.q rfl rfl rfl (QW.move (.tmp rfl)) ?_
  refine JL.nil ?_
  refine thenQ.n ?_
  refine J.cond (.tmp rfl) (fun c1 => ?_) (fun c1 => absurd c1 (by simp))
  refine J.region_lit ?_
  refine JL.q rfl rfl rfl (QW.move (.tmp rfl)) ?_
  refine JL.q rfl rfl rfl (QW.move (.tmp rfl)) ?_
  refine JL.q rfl rfl rfl (QW.nil_ptr (.tmp rfl)) ?_
  refine JL.store_box 0 ty27 (.tmp rfl) rfl (.tmp rfl) (by first | rfl | assumption) rfl rfl rfl rfl ?_
  refine JL.nil ?_
  refine thenQ.n ?_
  refine J.seq ?_
  refine J.region_lit ?_
  refine JL.q rfl rfl rfl (QW.move (.tmp rfl)) ?_
  refine JL.q rfl rfl rfl (QW.assign (.tmp rfl)) ?_
  refine JL.nil ?_
  refine thenQ.n ?_
  refine J.ret ?_
  exact ⟨_, selP [.p] _, _, RetEv.one rfl (REv.tmp rfl (.refl _)), rfl, sel_perm [.p] _, ⟨_, rfl, rfl, rfl⟩⟩
theorem size1_ret (a b c : Nat) (x y z : Int) : DC Try.prog 21 [ibox a x, ibox c z, ibox b y] [.c (.pointer (some ⟨a, 0, none⟩)), .c (.pointer (some ⟨b, 0, none⟩)), .c (.pointer (some ⟨c, 0, none⟩))] .returning fun r u' o => r = .ret (.tup []) ∧ u' = .returning ∧ o = [ibox a x, ibox c z, ibox b y] := by
  refine DC.of_JD Try.func21 rfl Try.ntmps21 rfl fun w0 A0 => ?_
  refine JD.seq ?_
  refine JD.region_recover rfl rfl (.inl ⟨rfl, rfl, rfl⟩) rfl ?_
  refine JL.callRF [.p] gofn22 rfl Lent.nil (fun _ => (.cons (.tmp rfl) (.cons (.tmp rfl) .nil))) (told_nil _ _) (.inl rfl) fun x4 o4 h4 => ?_
  obtain ⟨rfl, rfl⟩ := h4
  refine JL.nil ?_
  refine thenD.nn ?_
  refine JD.of_J rfl ?_
  refine J.cond (.tmp rfl) (fun c1 => absurd c1 (by simp)) (fun c1 => ?_)
  refine J.skip ?_
  exact ⟨_, selP [.p, .p, .p] _, _, RetEv.none rfl , rfl, sel_perm [.p, .p, .p] _, ⟨rfl, rfl, rfl⟩⟩
theorem size1_pan (a b c : Nat) (x y z e : Int) : DC Try.prog 21 [ibox a x, ibox c z, ibox b y] [.c (.pointer (some ⟨a, 0, none⟩)), .c (.pointer (some ⟨b, 0, none⟩)), .c (.pointer (some ⟨c, 0, none⟩))] (.panicking [{ v := errV e, recovered := false }]) fun r u' o => r = .ret (.tup []) ∧ u' = .panicking [{ v := errV e, recovered := true }] ∧ o = [ibox a e, ibox c 0, ibox b 0] := by
  refine DC.of_JD Try.func21 rfl Try.ntmps21 rfl fun w0 A0 => ?_
  refine JD.seq ?_
  refine JD.region_recover rfl rfl (.inr ⟨[], rfl, rfl⟩) rfl ?_
  refine JL.callRF [.p] gofn22 rfl Lent.nil (fun _ => (.cons (.tmp rfl) (.cons (.tmp rfl) .nil))) (told_hit _ _ _) (.inl rfl) fun x4 o4 h4 => ?_
  obtain ⟨rfl, rfl⟩ := h4
  refine JL.nil ?_
  refine thenD.nn ?_
  refine JD.of_J rfl ?_
  refine J.cond (.tmp rfl) (fun c1 => ?_) (fun c1 => absurd c1 (by simp))
  refine J.region_lit ?_
  refine JL.store_box 2 ty3 (.tmp rfl) rfl .const (by first | rfl | assumption) rfl rfl rfl rfl ?_
  refine JL.store_box 1 ty3 (.tmp rfl) rfl .const (by first | rfl | assumption) rfl rfl rfl rfl ?_
  refine JL.nil ?_
  exact ⟨_, selP [.p, .p, .p] _, _, RetEv.none rfl , rfl, sel_perm [.p, .p, .p] _, ⟨rfl, rfl, rfl⟩⟩
def esizeAV (v : EX) : AV := .tup [.c (.int .i64 (if v.err = 0 then v.cnt else 0)), .c (.int .i64 (if v.err = 0 then v.depth else 0)), .c (.int .i64 v.err)]
theorem esizeAV_ok {v : EX} {n d : Int} (h : v.err = 0) (hn : n = v.cnt) (hd : d = v.depth) : esizeAV v = .tup [.c (.int .i64 n), .c (.int .i64 d), .c (.int .i64 0)] := by
  subst hn hd; simp [esizeAV, h]
theorem esizeAV_no {v : EX} {e : Int} (h : ¬ v.err = 0) (he : e = v.err) : esizeAV v = .tup [.c (.int .i64 0), .c (.int .i64 0), .c (.int .i64 e)] := by
  subst he; simp [esizeAV, h]
theorem esize_ok {fr : Bool} {v : EX} {ys : List AV} (hv : Xc fr v ys) (hw : v.wf) : Fn Try.prog 9 [.agg ys] (esizeAV v) := by
  subst hv
  refine AC.of_JD Try.func9 rfl Try.ntmps9 rfl fun w0 A0 => ?_
  refine J.seq ?_
  refine J.region_lit ?_
  refine JL.box_agg (.tmp rfl) rfl fun b1 => ?_
  refine JL.alloc z3 rfl rfl fun b2 => ?_
  refine JL.alloc z3 rfl rfl fun b3 => ?_
  refine JL.alloc z27 rfl rfl fun b4 => ?_
  refine JL.nil ?_
  refine thenQ.n ?_
  refine J.seq ?_
  refine J.region_lit ?_
  refine JL.q rfl rfl rfl (QW.mkFunc .nil (.cons (.tmp rfl) (.cons (.tmp rfl) (.cons (.tmp rfl) .nil)))) ?_
  refine JL.defer rfl (.tmp rfl) ?_
  refine JL.nil ?_
  refine thenQ.n ?_
  refine J.seq ?_
  refine J.region_lit ?_
  refine JL.alloc z53 rfl rfl fun b5 => ?_
  refine JL.nil ?_
  refine thenQ.n ?_
  refine J.seq ?_
  refine J.region_lit ?_
  refine JL.q rfl rfl rfl (by first | exact QW.load_box 4 ty32 (.tmp rfl) rfl rfl rfl | exact QW.load_box 4 ty32 (.tmp rfl) rfl (take_at (EX.cs_length _ _) rfl) (EX.cs_length _ _)) ?_
  refine JL.callPF [.p] gofn23 rfl Lent.nil (fun _ => (.cons (.tmp rfl) (.cons (.tmp rfl) (.cons .const .nil)))) (ewalk_n _ Xc.self hw (by omega) (by omega) (Nat.le_refl _)) (.inl rfl) (fun k8 x8 o8 h8 => ?_) (fun k8 => ?_)
  rotate_left
  · skip
    refine thenQ.p ?_
    exact ⟨_, _, [], [_, _, _], selP [.p, .p, .p] _, _, rfl, rfl, gofn21, sel_perm [.p, .p, .p] _, DC.mono (size1_pan _ _ _ _ _ _ _) fun r u' o ⟨h1, h2, h3⟩ => by subst h1 h2 h3; exact ⟨⟨_, rfl⟩, rfl, _, [], _, RetEv.three rfl (REv.cell1 2 ty3 rfl rfl rfl (.refl _)) (REv.cell1 1 ty3 rfl rfl rfl (.refl _)) (REv.cell1 0 ty27 rfl rfl rfl (.refl _)), List.Perm.refl _, (congrArg Res.ret (esizeAV_no k8 rfl)).symm, rfl⟩⟩
  obtain ⟨rfl, rfl⟩ := h8
  refine JL.nil ?_
  refine thenQ.n ?_
  refine J.seq ?_
  refine J.region_outK 5 1 (fun os_ ow_ x_ o_ => match os_ with | [] => (x_ = .c undef ∧ o_ = ow_.set 3 (ibox b2 (v.chk 1 0).2)) | _ => False) mixed (by kernel_rfl) (by kernel_rfl) (by kernel_rfl) rfl ?_
  refine OutK.quiet [] rfl rfl rfl (fun qs_ qv_ ql_ => (.q rfl (QW.field_ptr fo53_0 (.tmp rfl) rfl))) ?_
  refine OutK.quiet [9] rfl rfl rfl (fun qs_ qv_ ql_ => by
      rcases qs_ with _ | ⟨⟨y0, p0⟩, qs_⟩
      · skip
        exact (.q rfl (QW.load_box1 0 ty3 (.tmp rfl) rfl rfl))
      rcases qs_ with _ | ⟨⟨y1, p1⟩, qs_⟩
      · skip
        obtain ⟨hr0, _⟩ := qv_
        obtain ⟨rfl, rfl⟩ := hr0
        exact (.q rfl (QW.load_box1 0 ty3 (.tmp rfl) rfl rfl))
      exact absurd ql_ (by simp)) ?_
  refine OutK.quiet [] rfl rfl rfl (fun qs_ qv_ ql_ => (.q rfl (QW.field_ptr fo53_1 (.tmp rfl) rfl))) ?_
  refine OutK.quiet [11] rfl rfl rfl (fun qs_ qv_ ql_ => by
      rcases qs_ with _ | ⟨⟨y0, p0⟩, qs_⟩
      · skip
        exact (.q rfl (QW.load_box1 0 ty3 (.tmp rfl) rfl rfl))
      rcases qs_ with _ | ⟨⟨y1, p1⟩, qs_⟩
      · skip
        obtain ⟨hr0, _⟩ := qv_
        obtain ⟨rfl, rfl⟩ := hr0
        exact (.q rfl (QW.load_box1 0 ty3 (.tmp rfl) rfl rfl))
      exact absurd ql_ (by simp)) ?_
  refine OutK.store [10] rfl (fun qs_ ow x o h ql_ => by
      obtain rfl : qs_ = [] := List.length_eq_zero_iff.1 (by simpa using ql_)
      exact h.1) rfl rfl rfl (fun qs_ qv_ ql_ => by
      obtain rfl : qs_ = [] := List.length_eq_zero_iff.1 ql_
      exact LStep.toR rfl (LStep.store_box 3 ty3 (.tmp rfl) rfl (.tmp rfl) (by first | rfl | assumption) rfl rfl rfl rfl) ⟨rfl, rfl⟩) ?_
  refine .nil fun qs_ qv_ ql_ => ?_
  obtain ⟨⟨y0, p0⟩, qs_, rfl⟩ : ∃ p t, qs_ = p :: t := by (cases qs_ with | nil => simp at ql_ | cons p t => exact ⟨p, t, rfl⟩)
  obtain rfl : qs_ = [] := List.length_eq_zero_iff.1 (by simpa using ql_)
  obtain ⟨hr0, _⟩ := qv_
  obtain ⟨rfl, rfl⟩ := hr0
  refine JL.conv (by (try simp only [id_eq, stepsO, List.map_cons, List.map_nil, valO, nthO, curO, mrg, List.reverse_cons, List.reverse_nil, List.nil_append, List.cons_append, List.append_nil, List.getElem?_cons_zero, List.getElem?_cons_succ, Option.map_some, Option.getD_some, List.set_cons_zero, List.set_cons_succ, AV.cellsOf, splice_zero, splice_succ, Nat.zero_add, Nat.reduceAdd]); rfl) ?_
  refine JL.store_box 2 ty3 (.tmp rfl) rfl (.tmp rfl) (by first | rfl | assumption) rfl rfl rfl rfl ?_
  refine JL.store_box 1 ty27 (.tmp rfl) rfl .const (by first | rfl | assumption) rfl rfl rfl rfl ?_
  refine JL.nil ?_
  refine thenQ.n ?_
  refine J.ret ?_
  exact ⟨_, _, [], [_, _, _], selP [.k, .p, .p, .p] _, _, rfl, rfl, gofn21, sel_perm [.k, .p, .p, .p] _, DC.mono (size1_ret _ _ _ _ _ _) fun r u' o ⟨h1, h2, h3⟩ => by subst h1 h2 h3; exact ⟨⟨_, rfl⟩, rfl, _, [], _, RetEv.three rfl (REv.cell1 2 ty3 rfl rfl rfl (.refl _)) (REv.cell1 1 ty3 rfl rfl rfl (.refl _)) (REv.cell1 0 ty27 rfl rfl rfl (.refl _)), List.Perm.refl _, (congrArg Res.ret (esizeAV_ok k8 rfl (by have := EX.chk_depth v 1 0 k8; omega))).symm, rfl⟩⟩
theorem echeck_ok {fr : Bool} {v : EX} {ys : List AV} (hv : Xc fr v ys) (hw : v.wf) : Fn Try.prog 25 [.agg ys] (.c (.int .i64 v.err)) := by
  subst hv
  refine AC.of_J Try.func25 rfl Try.ntmps25 rfl fun w0 A0 => ?_
  refine J.seq ?_
  refine J.region_lit ?_
  refine JL.box_agg (.tmp rfl) rfl fun b1 => ?_
  refine JL.q rfl rfl rfl (QW.assign .const) ?_
  refine JL.nil ?_
  refine thenQ.n ?_
  refine J.seq ?_
  refine J.region_lit ?_
  refine JL.q rfl rfl rfl (by first | exact QW.load_box 0 ty32 (.tmp rfl) rfl rfl rfl | exact QW.load_box 0 ty32 (.tmp rfl) rfl (take_at (EX.cs_length _ _) rfl) (EX.cs_length _ _)) ?_
  refine JL.q rfl rfl rfl (QW.call gofn9 (.cons (.tmp rfl) .nil) (esize_ok (by first | exact Xc.self | exact Xc.mk) (by assumption))) ?_
  refine JL.q rfl rfl rfl (QW.move (.tmp rfl)) ?_
  refine JL.q rfl rfl rfl (QW.extract (.tmp rfl) rfl) ?_
  refine JL.q rfl rfl rfl (QW.extract (.tmp rfl) rfl) ?_
  refine JL.q rfl rfl rfl (QW.extract (.tmp rfl) rfl) ?_
  refine JL.q rfl rfl rfl (QW.assign (.tmp rfl)) ?_
  refine JL.q rfl rfl rfl (QW.assign (.tmp rfl)) ?_
  refine JL.q rfl rfl rfl (QW.assign (.tmp rfl)) ?_
  refine JL.nil ?_
  refine thenQ.n ?_
  refine J.seq ?_
  refine J.region_lit ?_
  refine JL.q rfl rfl rfl (QW.move (.tmp rfl)) ?_
  refine JL.q rfl rfl rfl (QW.assign (.tmp rfl)) ?_
  refine JL.nil ?_
  refine thenQ.n ?_
  refine J.ret ?_
  exact ⟨_, selP [.k] _, _, RetEv.one rfl (REv.tmp rfl (.refl _)), rfl, sel_perm [.k] _, ⟨rfl, rfl⟩⟩
theorem ercheck_ok {fr : Bool} {v : EX} {ys : List AV} (hv : Xc fr v ys) (hw : v.wf) : Fn Try.prog 12 [.agg ys] (.c (.int .i64 v.err)) := by
  subst hv
  refine AC.of_J Try.func12 rfl Try.ntmps12 rfl fun w0 A0 => ?_
  refine J.seq ?_
  refine J.region_lit ?_
  refine JL.box_agg (.tmp rfl) rfl fun b1 => ?_
  refine JL.q rfl rfl rfl (QW.assign .const) ?_
  refine JL.nil ?_
  refine thenQ.n ?_
  refine J.seq ?_
  refine J.region_lit ?_
  refine JL.q rfl rfl rfl (by first | exact QW.load_box 0 ty25 (.tmp rfl) rfl rfl rfl | exact QW.load_box 0 ty25 (.tmp rfl) rfl (take_at (EX.cs_length _ _) rfl) (EX.cs_length _ _)) ?_
  refine JL.callRF [] gofn24 rfl Lent.nil (fun _ => (.cons (.tmp rfl) (.cons .const (.cons .const .nil)))) (erwalk_ok Xc.self hw (by omega) (by omega)) (.inl rfl) fun x8 o8 h8 => ?_
  obtain ⟨rfl, p8, d8, rfl, hp8⟩ := h8
  refine JL.q rfl rfl rfl (QW.move (.tmp rfl)) ?_
  refine JL.q rfl rfl rfl (QW.extract (.tmp rfl) rfl) ?_
  refine JL.q rfl rfl rfl (QW.extract (.tmp rfl) rfl) ?_
  refine JL.q rfl rfl rfl (QW.extract (.tmp rfl) rfl) ?_
  refine JL.q rfl rfl rfl (QW.assign (.tmp rfl)) ?_
  refine JL.q rfl rfl rfl (QW.assign (.tmp rfl)) ?_
  refine JL.q rfl rfl rfl (QW.assign (.tmp rfl)) ?_
  refine JL.nil ?_
  refine thenQ.n ?_
  refine J.seq ?_
  refine J.region_lit ?_
  refine JL.q rfl rfl rfl (QW.move (.tmp rfl)) ?_
  refine JL.q rfl rfl rfl (QW.assign (.tmp rfl)) ?_
  refine JL.nil ?_
  refine thenQ.n ?_
  refine J.ret ?_
  exact ⟨_, selP [.k] _, _, RetEv.one rfl (REv.tmp rfl (.refl _)), rfl, sel_perm [.k] _, ⟨rfl, rfl⟩⟩
end Go.Proofs.Ytlppnhkjonmniaa.J

/- Walks: are two expressions one; copies; octets that are copied, spoilt, compared. -/
namespace Go.Proofs.Ytlppnhkjonmniaa.J
open Go Go.RowKit
set_option linter.unusedVariables false
set_option linter.unusedSimpArgs false
set_option maxRecDepth 10000
set_option maxHeartbeats 4000000
theorem esames_drop {a b : List EX} {k : Nat} (ha : k < a.length) (hb : k < b.length) : EX.sames (a.drop k) (b.drop k) = (a[k].same b[k] && EX.sames (a.drop (k + 1)) (b.drop (k + 1))) := by
  rw [List.drop_eq_getElem_cons ha, List.drop_eq_getElem_cons hb, EX.sames]
theorem esames_len : ∀ {a b : List EX}, EX.sames a b = true → a.length = b.length
  | [], [], _ => rfl
  | x :: r, y :: s, h => by simp only [EX.sames, Bool.and_eq_true] at h; simp [esames_len h.2]
  | [], _ :: _, h => by simp [EX.sames] at h
  | _ :: _, [], h => by simp [EX.sames] at h
theorem EX.same_mk {o o' : Int} {b b' : Nat} {t t' : Str} {l l' : List EX} : (EX.mk o b t l).same (EX.mk o' b' t' l') = (o == o' && b == b' && t == t' && EX.sames l l') := by simp [EX.same]
theorem nat_beq (b b' : Nat) : ((b : Int) == (b' : Int)) = (b == b') := by rw [Bool.eq_iff_iff]; simp only [beq_iff_eq]; omega
theorem equalX_ok {fr fr2 : Bool} {f : FuncId} (hgo : goFn Try.prog f = true) {a b : List EX} (ha : a.length ≤ 9223372036854775806) (hf : ∀ (j : Nat) (h : j < a.length) (h2 : j < b.length), Fn Try.prog f [.agg (a[j].cs fr), .agg (b[j].cs fr2)] (.c (.bool (a[j].same b[j])))) : Fn Try.prog 35 [.sl fr false eEX (EX.css fr a), .sl fr2 false eEX (EX.css fr2 b), .c (.func (.func f) #[] #[])] (.c (.bool (EX.sames a b))) := by
  refine AC.of_J Try.func35 rfl Try.ntmps35 rfl fun w0 A0 => ?_
  refine J.seq ?_
  refine J.region_lit ?_
  refine JL.q rfl rfl rfl (QW.assign .const) ?_
  refine JL.nil ?_
  refine thenQ.n ?_
  refine J.seq ?_
  refine J.seq ?_
  refine J.region_lit ?_
  refine JL.q rfl rfl rfl (QW.move (.tmp rfl)) ?_
  refine JL.q rfl rfl rfl (by first | exact QW.len_slE sl30 (.tmp rfl) (EX.css_length _ _) | exact QW.len_sl sl30 (.tmp rfl) | exact QW.len_nil sl30 (.tmp rfl)) ?_
  refine JL.q rfl rfl rfl (QW.move (.tmp rfl)) ?_
  refine JL.q rfl rfl rfl (by first | exact QW.len_slE sl30 (.tmp rfl) (EX.css_length _ _) | exact QW.len_sl sl30 (.tmp rfl) | exact QW.len_nil sl30 (.tmp rfl)) ?_
  refine JL.q rfl rfl rfl (QW.neq (.tmp rfl) (.tmp rfl)) ?_
  refine JL.nil ?_
  refine thenQ.n ?_
  refine J.cond (.tmp rfl) (fun c1 => ?_) (fun c1 => ?_)
  · skip
    skip
    refine J.seq ?_
    refine J.region_lit ?_
    refine JL.q rfl rfl rfl (QW.assign .const) ?_
    refine JL.nil ?_
    refine thenQ.n ?_
    refine J.ret ?_
    refine thenQ.r ?_
    exact ⟨_, selP [] _, _, RetEv.one rfl (REv.tmp rfl (.refl _)), rfl, sel_perm [] _, ⟨ret_b (by cases hs : EX.sames a b with | false => rfl | true => have := esames_len hs; simp [EX.css_length] at c1; omega), rfl⟩⟩
  · skip
    have hl : a.length = b.length := by simp [EX.css_length] at c1; omega
    refine J.skip ?_
    refine thenQ.n ?_
    refine J.seq ?_
    refine J.seq ?_
    refine J.region_lit ?_
    refine JL.q rfl rfl rfl (QW.move (.tmp rfl)) ?_
    refine JL.q rfl rfl rfl (by first | exact QW.len_slE sl30 (.tmp rfl) (EX.css_length _ _) | exact QW.len_sl sl30 (.tmp rfl) | exact QW.len_nil sl30 (.tmp rfl)) ?_
    refine JL.q rfl rfl rfl (QW.move .const) ?_
    refine JL.nil ?_
    refine thenQ.n ?_
    refine J.block ?_
    refine J.loopK (ι := Nat) [1, 2, 15, 16] (fun j => [(17, .c (.int .i64 (j : Int)))]) (fun _ oo => oo) (fun j => j ≤ a.length ∧ EX.sames a b = EX.sames (a.drop j) (b.drop j)) (fun j => a.length - j) 0 (⟨Nat.zero_le _, rfl⟩) (Wk.re (.cons rfl (.refl _) (.cons rfl (.refl _) (.cons rfl (.refl _) (.cons rfl (.refl _) (.cons rfl (.refl _) .nil))))) (Reown.refl _) (fun _ h => by first | exact h | simp [h])) ?_
    intro j ⟨hj, hs⟩
    refine J.conv (by (try simp only [id_eq, stepsO, List.map_cons, List.map_nil, valO, nthO, curO, mrg, List.reverse_cons, List.reverse_nil, List.nil_append, List.cons_append, List.append_nil, List.getElem?_cons_zero, List.getElem?_cons_succ, Option.map_some, Option.getD_some, List.set_cons_zero, List.set_cons_succ, AV.cellsOf, splice_zero, splice_succ, Nat.zero_add, Nat.reduceAdd]); rfl) ?_
    refine J.seq ?_
    refine J.region_lit ?_
    refine JL.q rfl rfl rfl (QW.lss (.tmp rfl) (.tmp rfl)) ?_
    refine JL.nil ?_
    refine thenQ.n ?_
    refine J.seq ?_
    refine J.cond (.tmp rfl) (fun c2 => ?_) (fun c2 => ?_)
    · skip
      have hlt : j < a.length := by simpa [EX.css_length] using c2
      have hlt2 : j < b.length := by omega
      refine J.skip ?_
      refine thenQ.n ?_
      refine J.seq ?_
      refine J.block ?_
      refine J.seq ?_
      refine J.region_lit ?_
      refine JL.q rfl rfl rfl (QW.move (.tmp rfl)) ?_
      refine JL.q rfl rfl rfl (QW.index_sl sl30 ty32 rfl (.tmp rfl) (.tmp rfl) (by first | rfl | omega | (simp; done)) (by first | exact EX.css_getE _ hlt | exact EX.css_getE _ hlt2)) ?_
      refine JL.q rfl rfl rfl (by first | exact QW.load_ref ty32 (.tmp rfl) rfl rfl | exact QW.load_ref ty32 (.tmp rfl) (take_at0 (EX.cs_length _ _) rfl) (EX.cs_length _ _)) ?_
      refine JL.alloc z32 rfl rfl fun b8 => ?_
      refine JL.q rfl rfl rfl (QW.assign (.tmp rfl)) ?_
      first | refine JL.store_boxF 0 ty32 (.tmp rfl) rfl (.tmp rfl) (by first | rfl | assumption) (rfl) (rfl) rfl ?_ | refine JL.store_boxF 0 ty32 (.tmp rfl) rfl (.tmp rfl) (by first | rfl | assumption) (rfl) (EX.cs_length _ _) rfl ?_ | refine JL.store_boxF 0 ty32 (.tmp rfl) rfl (.tmp rfl) (by first | rfl | assumption) (EX.cs_length _ _) (rfl) rfl ?_ | refine JL.store_boxF 0 ty32 (.tmp rfl) rfl (.tmp rfl) (by first | rfl | assumption) (EX.cs_length _ _) (EX.cs_length _ _) rfl ?_ | refine JL.store_box 0 ty32 (.tmp rfl) rfl (.tmp rfl) (by first | rfl | assumption) rfl rfl rfl rfl ?_ | refine JL.store_box 0 ty32 (.tmp rfl) rfl (.tmp rfl) (by first | rfl | assumption) (EX.cs_length _ _) rfl rfl rfl ?_
      refine JL.nil ?_
      refine thenQ.n ?_
      refine J.seq ?_
      refine J.region_lit ?_
      refine JL.q rfl rfl rfl (QW.move (.tmp rfl)) ?_
      refine JL.q rfl rfl rfl (QW.move (.tmp rfl)) ?_
      refine JL.q rfl rfl rfl (QW.index_sl sl30 ty32 rfl (.tmp rfl) (.tmp rfl) (by first | rfl | omega | (simp; done)) (by first | exact EX.css_getE _ hlt | exact EX.css_getE _ hlt2)) ?_
      refine JL.q rfl rfl rfl (by first | exact QW.load_ref ty32 (.tmp rfl) rfl rfl | exact QW.load_ref ty32 (.tmp rfl) (take_at0 (EX.cs_length _ _) rfl) (EX.cs_length _ _)) ?_
      refine JL.alloc z32 rfl rfl fun b9 => ?_
      first | refine JL.store_boxF 0 ty32 (.tmp rfl) rfl (.tmp rfl) (by first | rfl | assumption) (rfl) (rfl) rfl ?_ | refine JL.store_boxF 0 ty32 (.tmp rfl) rfl (.tmp rfl) (by first | rfl | assumption) (rfl) (EX.cs_length _ _) rfl ?_ | refine JL.store_boxF 0 ty32 (.tmp rfl) rfl (.tmp rfl) (by first | rfl | assumption) (EX.cs_length _ _) (rfl) rfl ?_ | refine JL.store_boxF 0 ty32 (.tmp rfl) rfl (.tmp rfl) (by first | rfl | assumption) (EX.cs_length _ _) (EX.cs_length _ _) rfl ?_ | refine JL.store_box 0 ty32 (.tmp rfl) rfl (.tmp rfl) (by first | rfl | assumption) rfl rfl rfl rfl ?_ | refine JL.store_box 0 ty32 (.tmp rfl) rfl (.tmp rfl) (by first | rfl | assumption) (EX.cs_length _ _) rfl rfl rfl ?_
      refine JL.nil ?_
      refine thenQ.n ?_
      refine J.seq ?_
      refine J.region_lit ?_
      refine JL.q rfl rfl rfl (QW.move (.tmp rfl)) ?_
      refine JL.q rfl rfl rfl (by first | exact QW.load_box 1 ty32 (.tmp rfl) rfl rfl rfl | exact QW.load_box 1 ty32 (.tmp rfl) rfl (take_at (EX.cs_length _ _) rfl) (EX.cs_length _ _)) ?_
      refine JL.q rfl rfl rfl (by first | exact QW.load_box 0 ty32 (.tmp rfl) rfl rfl rfl | exact QW.load_box 0 ty32 (.tmp rfl) rfl (take_at (EX.cs_length _ _) rfl) (EX.cs_length _ _)) ?_
      refine JL.q rfl rfl rfl (QW.callV hgo (.tmp rfl) (.cons (.tmp rfl) (.cons (.tmp rfl) .nil)) rfl (hf j hlt hlt2)) ?_
      refine JL.q rfl rfl rfl (QW.not (.tmp rfl)) ?_
      refine JL.nil ?_
      refine thenQ.n ?_
      refine J.cond (.tmp rfl) (fun c3 => ?_) (fun c3 => ?_)
      · skip
        simp at c3
        refine J.seq ?_
        refine J.region_lit ?_
        refine JL.q rfl rfl rfl (QW.assign .const) ?_
        refine JL.nil ?_
        refine thenQ.n ?_
        refine J.ret ?_
        refine blkQ.r ?_
        refine thenQ.r ?_
        refine thenQ.r ?_
        refine blkQ.r ?_
        refine thenQ.r ?_
        exact ⟨_, selP [.k, .k] _, _, RetEv.one rfl (REv.tmp rfl (.refl _)), rfl, sel_perm [.k, .k] _, ⟨ret_b (by rw [hs, esames_drop hlt hlt2, c3]; rfl), rfl⟩⟩
      · skip
        simp at c3
        refine J.skip ?_
        refine blkQ.n ?_
        refine thenQ.n ?_
        refine J.region_lit ?_
        refine JL.q rfl rfl rfl (QW.add (.tmp rfl) .const (by first | exact w64n (by first | rfl | omega | (simp; done)) (by omega) | exact w64 (by omega) | rfl)) ?_
        refine JL.q rfl rfl rfl (QW.move (.tmp rfl)) ?_
        refine JL.nil ?_
        refine thenQ.n ?_
        rw [esames_drop hlt hlt2, c3, Bool.true_and] at hs
        exact ⟨j + 1, ⟨hlt, hs⟩, by omega, Wk.re (.cons rfl (.refl _) (.cons rfl (.refl _) (.cons rfl (.refl _) (.cons rfl (.refl _) (.cons rfl (.refl _) .nil))))) (Reown.dropN 2 _ rfl) (fun _ h => by first | exact h | simp [h])⟩
    · skip
      have hge : a.length ≤ j := by simpa [EX.css_length] using c2
      refine J.exit ?_
      refine thenQ.x ?_
      refine thenQ.x ?_
      refine blkQ.hit ?_
      refine thenQ.n ?_
      refine J.seq ?_
      refine J.region_lit ?_
      refine JL.q rfl rfl rfl (QW.assign .const) ?_
      refine JL.nil ?_
      refine thenQ.n ?_
      refine J.ret ?_
      exact ⟨_, selP [] _, _, RetEv.one rfl (REv.tmp rfl (.refl _)), rfl, sel_perm [] _, ⟨ret_b (by rw [hs, List.drop_of_length_le hge, List.drop_of_length_le (by omega), EX.sames]), rfl⟩⟩
theorem ealike_n  : ∀ (n : Nat) {v u : EX} {ys zs : List AV} {fr fr2 : Bool}, Xc fr v ys → Xc fr2 u zs → v.wf → u.wf → v.sz ≤ n →
    Fn Try.prog 26 [.agg ys, .agg zs] (.c (.bool (v.same u))) := by
  intro n
  induction n with
  | zero => intro v u ys zs fr fr2 hv hu hw hw2 h; exact absurd h (by have := EX.sz_pos v; omega)
  | succ n ih =>
    intro v u ys zs fr fr2 hv hu hw hw2 hn
    obtain ⟨o, b, t, is⟩ := v
    obtain ⟨o', b', t', is'⟩ := u
    subst hv hu
    obtain ⟨-, -, -, hi80, hwi⟩ := hw.inv
    obtain ⟨-, -, -, hi80', hwi'⟩ := hw2.inv
    have h1 : is.length ≤ 9223372036854775806 := by unfold reach at hi80; omega
    have h2 : is'.length ≤ 9223372036854775806 := by unfold reach at hi80'; omega
    refine AC.of_J Try.func26 rfl Try.ntmps26 rfl fun w0 A0 => ?_
    refine J.seq ?_
    refine J.region_lit ?_
    refine JL.box_agg (.tmp rfl) rfl fun b2 => ?_
    refine JL.box_agg (.tmp rfl) rfl fun b3 => ?_
    refine JL.q rfl rfl rfl (QW.assign .const) ?_
    refine JL.nil ?_
    refine thenQ.n ?_
    refine J.seq ?_
    refine J.region_lit ?_
    refine JL.q rfl rfl rfl (QW.field_ptr fo32_0 (.tmp rfl) rfl) ?_
    refine JL.q rfl rfl rfl (QW.load_box1 1 ty3 (.tmp rfl) rfl rfl) ?_
    refine JL.q rfl rfl rfl (QW.field_ptr fo32_0 (.tmp rfl) rfl) ?_
    refine JL.q rfl rfl rfl (QW.load_box1 0 ty3 (.tmp rfl) rfl rfl) ?_
    refine JL.q rfl rfl rfl (QW.eql (.tmp rfl) (.tmp rfl)) ?_
    refine JL.q rfl rfl rfl (QW.move (.tmp rfl)) ?_
    refine JL.g rfl rfl rfl rfl rfl (fun hg => (QW.field_ptr fo32_1 (.tmp rfl) rfl)) ?_
    refine JL.g rfl rfl rfl rfl rfl (fun hg => (QW.load_box1 1 ty22 (.when rfl hg) rfl rfl)) ?_
    refine JL.g rfl rfl rfl rfl rfl (fun hg => (QW.field_ptr fo32_1 (.tmp rfl) rfl)) ?_
    refine JL.g rfl rfl rfl rfl rfl (fun hg => (QW.load_box1 0 ty22 (.when rfl hg) rfl rfl)) ?_
    refine JL.g rfl rfl rfl rfl rfl (fun hg => (QW.eql (.when rfl hg) (.when rfl hg))) ?_
    refine JL.q rfl rfl rfl (QW.pick_and (.tmp rfl) (.tmp rfl)) ?_
    refine JL.q rfl rfl rfl (QW.move (.tmp rfl)) ?_
    refine JL.g rfl rfl rfl rfl rfl (fun hg => (QW.field_ptr fo32_2 (.tmp rfl) rfl)) ?_
    refine JL.g rfl rfl rfl rfl rfl (fun hg => (QW.load_box1 1 ty9 (.when rfl hg) rfl rfl)) ?_
    refine JL.g rfl rfl rfl rfl rfl (fun hg => (QW.field_ptr fo32_2 (.tmp rfl) rfl)) ?_
    refine JL.g rfl rfl rfl rfl rfl (fun hg => (QW.load_box1 0 ty9 (.when rfl hg) rfl rfl)) ?_
    refine JL.g rfl rfl rfl rfl rfl (fun hg => (QW.eql_s (.when rfl hg) (.when rfl hg))) ?_
    refine JL.q rfl rfl rfl (QW.pick_and (.tmp rfl) (.tmp rfl)) ?_
    refine JL.q rfl rfl rfl (QW.move (.tmp rfl)) ?_
    refine JL.g rfl rfl rfl rfl rfl (fun hg => (QW.field_ptr fo32_3 (.tmp rfl) rfl)) ?_
    refine JL.g rfl rfl rfl rfl rfl (fun hg => (QW.load_box1 1 ty30 (.when rfl hg) rfl rfl)) ?_
    refine JL.g rfl rfl rfl rfl rfl (fun hg => (QW.field_ptr fo32_3 (.tmp rfl) rfl)) ?_
    refine JL.g rfl rfl rfl rfl rfl (fun hg => (QW.load_box1 0 ty30 (.when rfl hg) rfl rfl)) ?_
    refine JL.g rfl rfl rfl rfl rfl (fun hg => (QW.call gofn35 (.cons (.when rfl hg) (.cons (.when rfl hg) (.cons .func .nil))) (equalX_ok gofn26 h1 (fun j h h2 => ih Xc.self Xc.self (hwi _ (List.getElem_mem h)) (hwi' _ (List.getElem_mem h2)) (EX.sz_get hn h))))) ?_
    refine JL.q rfl rfl rfl (QW.pick_and (.tmp rfl) (.tmp rfl)) ?_
    refine JL.q rfl rfl rfl (QW.assign (.tmp rfl)) ?_
    refine JL.nil ?_
    refine thenQ.n ?_
    refine J.ret ?_
    exact ⟨_, selP [.k, .k] _, _, RetEv.one rfl (REv.tmp rfl (.refl _)), rfl, sel_perm [.k, .k] _, ⟨ret_b (by rw [EX.same_mk, nat_beq]), rfl⟩⟩
theorem eralike_n  : ∀ (n : Nat) {v u : EX} {ys zs : List AV} {fr fr2 : Bool}, Xc fr v ys → Xc fr2 u zs → v.wf → u.wf → v.sz ≤ n →
    Fn Try.prog 27 [.agg ys, .agg zs] (.c (.bool (v.same u))) := by
  intro n
  induction n with
  | zero => intro v u ys zs fr fr2 hv hu hw hw2 h; exact absurd h (by have := EX.sz_pos v; omega)
  | succ n ih =>
    intro v u ys zs fr fr2 hv hu hw hw2 hn
    obtain ⟨o, b, t, is⟩ := v
    obtain ⟨o', b', t', is'⟩ := u
    subst hv hu
    obtain ⟨-, -, -, hi80, hwi⟩ := hw.inv
    obtain ⟨-, -, -, hi80', hwi'⟩ := hw2.inv
    have h1 : is.length ≤ 9223372036854775806 := by unfold reach at hi80; omega
    have h2 : is'.length ≤ 9223372036854775806 := by unfold reach at hi80'; omega
    refine AC.of_J Try.func27 rfl Try.ntmps27 rfl fun w0 A0 => ?_
    refine J.seq ?_
    refine J.region_lit ?_
    refine JL.box_agg (.tmp rfl) rfl fun b2 => ?_
    refine JL.box_agg (.tmp rfl) rfl fun b3 => ?_
    refine JL.q rfl rfl rfl (QW.assign .const) ?_
    refine JL.nil ?_
    refine thenQ.n ?_
    refine J.seq ?_
    refine J.seq ?_
    refine J.region_lit ?_
    refine JL.q rfl rfl rfl (QW.field_ptr fo25_0 (.tmp rfl) rfl) ?_
    refine JL.q rfl rfl rfl (QW.load_box1 1 ty3 (.tmp rfl) rfl rfl) ?_
    refine JL.q rfl rfl rfl (QW.field_ptr fo25_0 (.tmp rfl) rfl) ?_
    refine JL.q rfl rfl rfl (QW.load_box1 0 ty3 (.tmp rfl) rfl rfl) ?_
    refine JL.q rfl rfl rfl (QW.neq (.tmp rfl) (.tmp rfl)) ?_
    refine JL.q rfl rfl rfl (QW.move (.tmp rfl)) ?_
    refine JL.g rfl rfl rfl rfl rfl (fun hg => (QW.field_ptr fo25_1 (.tmp rfl) rfl)) ?_
    refine JL.g rfl rfl rfl rfl rfl (fun hg => (QW.load_box1 1 ty22 (.when rfl hg) rfl rfl)) ?_
    refine JL.g rfl rfl rfl rfl rfl (fun hg => (QW.field_ptr fo25_1 (.tmp rfl) rfl)) ?_
    refine JL.g rfl rfl rfl rfl rfl (fun hg => (QW.load_box1 0 ty22 (.when rfl hg) rfl rfl)) ?_
    refine JL.g rfl rfl rfl rfl rfl (fun hg => (QW.neq (.when rfl hg) (.when rfl hg))) ?_
    refine JL.q rfl rfl rfl (QW.pick_or (.tmp rfl) (.tmp rfl)) ?_
    refine JL.q rfl rfl rfl (QW.move (.tmp rfl)) ?_
    refine JL.g rfl rfl rfl rfl rfl (fun hg => (QW.field_ptr fo25_2 (.tmp rfl) rfl)) ?_
    refine JL.g rfl rfl rfl rfl rfl (fun hg => (QW.load_box1 1 ty9 (.when rfl hg) rfl rfl)) ?_
    refine JL.g rfl rfl rfl rfl rfl (fun hg => (QW.field_ptr fo25_2 (.tmp rfl) rfl)) ?_
    refine JL.g rfl rfl rfl rfl rfl (fun hg => (QW.load_box1 0 ty9 (.when rfl hg) rfl rfl)) ?_
    refine JL.g rfl rfl rfl rfl rfl (fun hg => (QW.neq_s (.when rfl hg) (.when rfl hg))) ?_
    refine JL.q rfl rfl rfl (QW.pick_or (.tmp rfl) (.tmp rfl)) ?_
    refine JL.q rfl rfl rfl (QW.move (.tmp rfl)) ?_
    refine JL.g rfl rfl rfl rfl rfl (fun hg => (QW.field_ptr fo25_3 (.tmp rfl) rfl)) ?_
    refine JL.g rfl rfl rfl rfl rfl (fun hg => (QW.load_box1 1 ty23 (.when rfl hg) rfl rfl)) ?_
    refine JL.g rfl rfl rfl rfl rfl (fun hg => (by first | exact QW.len_slE sl23 (.when rfl hg) (EX.css_length _ _) | exact QW.len_sl sl23 (.when rfl hg) | exact QW.len_nil sl23 (.when rfl hg))) ?_
    refine JL.g rfl rfl rfl rfl rfl (fun hg => (QW.field_ptr fo25_3 (.tmp rfl) rfl)) ?_
    refine JL.g rfl rfl rfl rfl rfl (fun hg => (QW.load_box1 0 ty23 (.when rfl hg) rfl rfl)) ?_
    refine JL.g rfl rfl rfl rfl rfl (fun hg => (by first | exact QW.len_slE sl23 (.when rfl hg) (EX.css_length _ _) | exact QW.len_sl sl23 (.when rfl hg) | exact QW.len_nil sl23 (.when rfl hg))) ?_
    refine JL.g rfl rfl rfl rfl rfl (fun hg => (QW.neq (.when rfl hg) (.when rfl hg))) ?_
    refine JL.q rfl rfl rfl (QW.pick_or (.tmp rfl) (.tmp rfl)) ?_
    refine JL.nil ?_
    refine thenQ.n ?_
    refine J.cond (.tmp rfl) (fun c1 => ?_) (fun c1 => ?_)
    · skip
      skip
      refine J.seq ?_
      refine J.region_lit ?_
      refine JL.q rfl rfl rfl (QW.assign .const) ?_
      refine JL.nil ?_
      refine thenQ.n ?_
      refine J.ret ?_
      refine thenQ.r ?_
      have hf : (EX.mk o b t is).same (EX.mk o' b' t' is') = false := by
        rw [EX.same_mk]
        cases hs : EX.sames is is' with
        | false => simp
        | true =>
          have := esames_len hs
          simp [EX.css_length] at c1 ⊢
          intro e1 e2 e3
          subst e1 e2 e3
          simp at c1
          omega
      exact ⟨_, selP [.k, .k] _, _, RetEv.one rfl (REv.tmp rfl (.refl _)), rfl, sel_perm [.k, .k] _, ⟨by rw [hf], rfl⟩⟩
    · skip
      simp [EX.css_length] at c1
      obtain ⟨⟨⟨e1, e2⟩, e3⟩, e5⟩ := c1
      have hl : is.length = is'.length := by omega
      refine J.skip ?_
      refine thenQ.n ?_
      refine J.seq ?_
      refine J.seq ?_
      refine J.region_lit ?_
      refine JL.q rfl rfl rfl (QW.assign .const) ?_
      refine JL.nil ?_
      refine thenQ.n ?_
      refine J.block ?_
      refine J.loopK (ι := Nat) [2, 3] (fun j => [(5, .c (.int .i64 (j : Int)))]) (fun _ oo => oo) (fun j => j ≤ is.length ∧ EX.sames is is' = EX.sames (is.drop j) (is'.drop j)) (fun j => is.length - j) 0 (⟨Nat.zero_le _, rfl⟩) (Wk.re (.cons rfl (.refl _) (.cons rfl (.refl _) (.cons rfl (.refl _) .nil))) (Reown.refl _) (fun _ h => by first | exact h | simp [h])) ?_
      intro j ⟨hj, hs⟩
      refine J.conv (by (try simp only [id_eq, stepsO, List.map_cons, List.map_nil, valO, nthO, curO, mrg, List.reverse_cons, List.reverse_nil, List.nil_append, List.cons_append, List.append_nil, List.getElem?_cons_zero, List.getElem?_cons_succ, Option.map_some, Option.getD_some, List.set_cons_zero, List.set_cons_succ, AV.cellsOf, splice_zero, splice_succ, Nat.zero_add, Nat.reduceAdd]); rfl) ?_
      refine J.seq ?_
      refine J.seq ?_
      refine J.region_lit ?_
      refine JL.q rfl rfl rfl (QW.move (.tmp rfl)) ?_
      refine JL.q rfl rfl rfl (QW.field_ptr fo25_3 (.tmp rfl) rfl) ?_
      refine JL.q rfl rfl rfl (QW.load_box1 1 ty23 (.tmp rfl) rfl rfl) ?_
      refine JL.q rfl rfl rfl (by first | exact QW.len_slE sl23 (.tmp rfl) (EX.css_length _ _) | exact QW.len_sl sl23 (.tmp rfl) | exact QW.len_nil sl23 (.tmp rfl)) ?_
      refine JL.q rfl rfl rfl (QW.lss (.tmp rfl) (.tmp rfl)) ?_
      refine JL.nil ?_
      refine thenQ.n ?_
      refine J.cond (.tmp rfl) (fun c2 => ?_) (fun c2 => ?_)
      · skip
        have hlt : j < is.length := by simpa [EX.css_length] using c2
        have hlt2 : j < is'.length := by omega
        refine J.skip ?_
        refine thenQ.n ?_
        refine J.seq ?_
        refine J.block ?_
        refine J.seq ?_
        refine J.regionX mixed ?_
        refine JX.f 0 [] rfl rfl rfl rfl rfl rfl rfl rfl (fun ow_ => (.q rfl (QW.field_ptr fo25_3 (.tmp rfl) rfl))) ?_
        refine JX.o 1 1 [41] rfl rfl rfl rfl rfl rfl rfl rfl rfl (fun ow_ ho_ => (.q rfl (QW.load_box1 1 ty23 (.tmp rfl) ho_ rfl))) ?_
        refine JX.f 2 [] rfl rfl rfl rfl rfl rfl rfl rfl (fun ow_ => (.q rfl (QW.move (.tmp rfl)))) ?_
        refine JX.f 3 [42, 43] rfl rfl rfl rfl rfl rfl rfl rfl (fun ow_ => (.q rfl (QW.index_sl sl23 ty25 rfl (.tmp rfl) (.tmp rfl) (by first | rfl | omega | (simp; done)) (by first | exact EX.css_getE _ hlt | exact EX.css_getE _ hlt2)))) ?_
        refine JX.f 4 [44] rfl rfl rfl rfl rfl rfl rfl rfl (fun ow_ => (.q rfl (by first | exact QW.load_ref ty25 (.tmp rfl) rfl rfl | exact QW.load_ref ty25 (.tmp rfl) (take_at0 (EX.cs_length _ _) rfl) (EX.cs_length _ _)))) ?_
        refine JX.f 5 [] rfl rfl rfl rfl rfl rfl rfl rfl (fun ow_ => (.q rfl (QW.field_ptr fo25_3 (.tmp rfl) rfl))) ?_
        refine JX.o 6 0 [46] rfl rfl rfl rfl rfl rfl rfl rfl rfl (fun ow_ ho_ => (.q rfl (QW.load_box1 0 ty23 (.tmp rfl) ho_ rfl))) ?_
        refine JX.f 7 [] rfl rfl rfl rfl rfl rfl rfl rfl (fun ow_ => (.q rfl (QW.move (.tmp rfl)))) ?_
        refine JX.f 8 [47, 48] rfl rfl rfl rfl rfl rfl rfl rfl (fun ow_ => (.q rfl (QW.index_sl sl23 ty25 rfl (.tmp rfl) (.tmp rfl) (by first | rfl | omega | (simp; done)) (by first | exact EX.css_getE _ hlt | exact EX.css_getE _ hlt2)))) ?_
        refine JX.f 9 [49] rfl rfl rfl rfl rfl rfl rfl rfl (fun ow_ => (.q rfl (by first | exact QW.load_ref ty25 (.tmp rfl) rfl rfl | exact QW.load_ref ty25 (.tmp rfl) (take_at0 (EX.cs_length _ _) rfl) (EX.cs_length _ _)))) ?_
        refine JX.f 10 [45, 50] rfl rfl rfl rfl rfl rfl rfl rfl (fun ow_ => (.q rfl (QW.call gofn27 (.cons (.tmp rfl) (.cons (.tmp rfl) .nil)) (ih Xc.self Xc.self (hwi _ (List.getElem_mem _)) (hwi' _ (List.getElem_mem _)) (EX.sz_get hn hlt))))) ?_
        refine JX.f 11 [51] rfl rfl rfl rfl rfl rfl rfl rfl (fun ow_ => (.q rfl (QW.not (.tmp rfl)))) ?_
        refine JX.fin (by kernel_rfl) (by kernel_rfl) fun bs_ => ?_
        refine QX.conv (by (try simp only [vlF, bxF, tkM, lvM, Flt.val, Flt.bx, List.append_assoc, List.take_succ_cons, List.take_zero, List.append_eq, id_eq, stepsO, List.map_cons, List.map_nil, valO, nthO, curO, mrg, List.reverse_cons, List.reverse_nil, List.nil_append, List.cons_append, List.append_nil, List.getElem?_cons_zero, List.getElem?_cons_succ, Option.map_some, Option.getD_some, List.set_cons_zero, List.set_cons_succ, AV.cellsOf, splice_zero, splice_succ, Nat.zero_add, Nat.reduceAdd]); rfl) ?_
        refine thenQ.n ?_
        refine J.cond (.tmp rfl) (fun c3 => ?_) (fun c3 => ?_)
        · skip
          skip
          refine J.seq ?_
          refine J.region_lit ?_
          refine JL.q rfl rfl rfl (QW.assign .const) ?_
          refine JL.nil ?_
          refine thenQ.n ?_
          refine J.ret ?_
          refine blkQ.r ?_
          refine thenQ.r ?_
          refine thenQ.r ?_
          refine blkQ.r ?_
          refine thenQ.r ?_
          have c3 : (is[j]).same is'[j] = false := by simpa using c3
          have hf : (EX.mk o b t is).same (EX.mk o' b' t' is') = false := by rw [EX.same_mk, hs, esames_drop hlt hlt2, c3]; simp
          exact ⟨_, selP [.k, .k] _, _, RetEv.one rfl (REv.tmp rfl (.refl _)), rfl, sel_perm [.k, .k] _, ⟨by rw [hf], rfl⟩⟩
        · skip
          skip
          refine J.skip ?_
          refine blkQ.n ?_
          refine thenQ.n ?_
          refine J.region_lit ?_
          refine JL.q rfl rfl rfl (QW.move (.tmp rfl)) ?_
          refine JL.q rfl rfl rfl (QW.add (.tmp rfl) .const (by first | exact w64n (by first | rfl | omega | (simp; done)) (by omega) | exact w64 (by omega) | rfl)) ?_
          refine JL.q rfl rfl rfl (QW.assign (.tmp rfl)) ?_
          refine JL.nil ?_
          refine thenQ.n ?_
          have c3 : (is[j]).same is'[j] = true := by simpa using c3
          rw [esames_drop hlt hlt2, c3, Bool.true_and] at hs
          exact ⟨j + 1, ⟨hlt, hs⟩, by omega, Wk.re (.cons rfl (.refl _) (.cons rfl (.refl _) (.cons rfl (.refl _) .nil))) (Reown.refl _) (fun _ h => by first | exact h | simp [h])⟩
      · skip
        have hge : is.length ≤ j := by simpa [EX.css_length] using c2
        refine J.exit ?_
        refine thenQ.x ?_
        refine thenQ.x ?_
        refine blkQ.hit ?_
        refine thenQ.n ?_
        refine J.seq ?_
        refine J.region_lit ?_
        refine JL.q rfl rfl rfl (QW.assign .const) ?_
        refine JL.nil ?_
        refine thenQ.n ?_
        refine J.ret ?_
        have hz : EX.sames is is' = true := by
          rw [hs, List.drop_of_length_le hge, List.drop_of_length_le (by omega), EX.sames]
        have hf : (EX.mk o b t is).same (EX.mk o' b' t' is') = true := by rw [EX.same_mk, hz, e1, e3, show b = b' by omega]; simp
        exact ⟨_, selP [.k, .k] _, _, RetEv.one rfl (REv.tmp rfl (.refl _)), rfl, sel_perm [.k, .k] _, ⟨by rw [hf], rfl⟩⟩
theorem elalike_n  : ∀ (n : Nat) {v u : EX} {ys zs : List AV} {fr fr2 : Bool}, Xc fr v ys → Xc fr2 u zs → v.wf → u.wf → v.sz ≤ n →
    Fn Try.prog 15 [.agg ys, .agg zs] (.c (.int .i64 (if v.same u then 0 else 1))) := by
  intro n
  induction n with
  | zero => intro v u ys zs fr fr2 hv hu hw hw2 h; exact absurd h (by have := EX.sz_pos v; omega)
  | succ n ih =>
    intro v u ys zs fr fr2 hv hu hw hw2 hn
    obtain ⟨o, b, t, is⟩ := v
    obtain ⟨o', b', t', is'⟩ := u
    subst hv hu
    obtain ⟨-, -, -, hi80, hwi⟩ := hw.inv
    obtain ⟨-, -, -, hi80', hwi'⟩ := hw2.inv
    have h1 : is.length ≤ 9223372036854775806 := by unfold reach at hi80; omega
    have h2 : is'.length ≤ 9223372036854775806 := by unfold reach at hi80'; omega
    refine AC.of_J Try.func15 rfl Try.ntmps15 rfl fun w0 A0 => ?_
    refine J.seq ?_
    refine J.region_lit ?_
    refine JL.box_agg (.tmp rfl) rfl fun b2 => ?_
    refine JL.box_agg (.tmp rfl) rfl fun b3 => ?_
    refine JL.q rfl rfl rfl (QW.assign .const) ?_
    refine JL.nil ?_
    refine thenQ.n ?_
    refine J.seq ?_
    refine J.seq ?_
    refine J.region_lit ?_
    refine JL.q rfl rfl rfl (QW.field_ptr fo32_0 (.tmp rfl) rfl) ?_
    refine JL.q rfl rfl rfl (QW.load_box1 1 ty3 (.tmp rfl) rfl rfl) ?_
    refine JL.q rfl rfl rfl (QW.field_ptr fo25_0 (.tmp rfl) rfl) ?_
    refine JL.q rfl rfl rfl (QW.load_box1 0 ty3 (.tmp rfl) rfl rfl) ?_
    refine JL.q rfl rfl rfl (QW.neq (.tmp rfl) (.tmp rfl)) ?_
    refine JL.q rfl rfl rfl (QW.move (.tmp rfl)) ?_
    refine JL.g rfl rfl rfl rfl rfl (fun hg => (QW.field_ptr fo32_1 (.tmp rfl) rfl)) ?_
    refine JL.g rfl rfl rfl rfl rfl (fun hg => (QW.load_box1 1 ty22 (.when rfl hg) rfl rfl)) ?_
    refine JL.g rfl rfl rfl rfl rfl (fun hg => (QW.field_ptr fo25_1 (.tmp rfl) rfl)) ?_
    refine JL.g rfl rfl rfl rfl rfl (fun hg => (QW.load_box1 0 ty22 (.when rfl hg) rfl rfl)) ?_
    refine JL.g rfl rfl rfl rfl rfl (fun hg => (QW.neq (.when rfl hg) (.when rfl hg))) ?_
    refine JL.q rfl rfl rfl (QW.pick_or (.tmp rfl) (.tmp rfl)) ?_
    refine JL.q rfl rfl rfl (QW.move (.tmp rfl)) ?_
    refine JL.g rfl rfl rfl rfl rfl (fun hg => (QW.field_ptr fo32_2 (.tmp rfl) rfl)) ?_
    refine JL.g rfl rfl rfl rfl rfl (fun hg => (QW.load_box1 1 ty9 (.when rfl hg) rfl rfl)) ?_
    refine JL.g rfl rfl rfl rfl rfl (fun hg => (QW.field_ptr fo25_2 (.tmp rfl) rfl)) ?_
    refine JL.g rfl rfl rfl rfl rfl (fun hg => (QW.load_box1 0 ty9 (.when rfl hg) rfl rfl)) ?_
    refine JL.g rfl rfl rfl rfl rfl (fun hg => (QW.neq_s (.when rfl hg) (.when rfl hg))) ?_
    refine JL.q rfl rfl rfl (QW.pick_or (.tmp rfl) (.tmp rfl)) ?_
    refine JL.q rfl rfl rfl (QW.move (.tmp rfl)) ?_
    refine JL.g rfl rfl rfl rfl rfl (fun hg => (QW.field_ptr fo32_3 (.tmp rfl) rfl)) ?_
    refine JL.g rfl rfl rfl rfl rfl (fun hg => (QW.load_box1 1 ty30 (.when rfl hg) rfl rfl)) ?_
    refine JL.g rfl rfl rfl rfl rfl (fun hg => (by first | exact QW.len_slE sl30 (.when rfl hg) (EX.css_length _ _) | exact QW.len_sl sl30 (.when rfl hg) | exact QW.len_nil sl30 (.when rfl hg))) ?_
    refine JL.g rfl rfl rfl rfl rfl (fun hg => (QW.field_ptr fo25_3 (.tmp rfl) rfl)) ?_
    refine JL.g rfl rfl rfl rfl rfl (fun hg => (QW.load_box1 0 ty23 (.when rfl hg) rfl rfl)) ?_
    refine JL.g rfl rfl rfl rfl rfl (fun hg => (by first | exact QW.len_slE sl23 (.when rfl hg) (EX.css_length _ _) | exact QW.len_sl sl23 (.when rfl hg) | exact QW.len_nil sl23 (.when rfl hg))) ?_
    refine JL.g rfl rfl rfl rfl rfl (fun hg => (QW.neq (.when rfl hg) (.when rfl hg))) ?_
    refine JL.q rfl rfl rfl (QW.pick_or (.tmp rfl) (.tmp rfl)) ?_
    refine JL.nil ?_
    refine thenQ.n ?_
    refine J.cond (.tmp rfl) (fun c1 => ?_) (fun c1 => ?_)
    · skip
      skip
      refine J.seq ?_
      refine J.region_lit ?_
      refine JL.q rfl rfl rfl (QW.assign .const) ?_
      refine JL.nil ?_
      refine thenQ.n ?_
      refine J.ret ?_
      refine thenQ.r ?_
      have hf : (EX.mk o b t is).same (EX.mk o' b' t' is') = false := by
        rw [EX.same_mk]
        cases hs : EX.sames is is' with
        | false => simp
        | true =>
          have := esames_len hs
          simp [EX.css_length] at c1 ⊢
          intro e1 e2 e3
          subst e1 e2 e3
          simp at c1
          omega
      exact ⟨_, selP [.k, .k] _, _, RetEv.one rfl (REv.tmp rfl (.refl _)), rfl, sel_perm [.k, .k] _, ⟨by rw [hf]; rfl, rfl⟩⟩
    · skip
      simp [EX.css_length] at c1
      obtain ⟨⟨⟨e1, e2⟩, e3⟩, e5⟩ := c1
      have hl : is.length = is'.length := by omega
      refine J.skip ?_
      refine thenQ.n ?_
      refine J.seq ?_
      refine J.seq ?_
      refine J.region_lit ?_
      refine JL.q rfl rfl rfl (QW.assign .const) ?_
      refine JL.nil ?_
      refine thenQ.n ?_
      refine J.block ?_
      refine J.loopK (ι := Nat) [2, 3] (fun j => [(5, .c (.int .i64 (j : Int)))]) (fun _ oo => oo) (fun j => j ≤ is.length ∧ EX.sames is is' = EX.sames (is.drop j) (is'.drop j)) (fun j => is.length - j) 0 (⟨Nat.zero_le _, rfl⟩) (Wk.re (.cons rfl (.refl _) (.cons rfl (.refl _) (.cons rfl (.refl _) .nil))) (Reown.refl _) (fun _ h => by first | exact h | simp [h])) ?_
      intro j ⟨hj, hs⟩
      refine J.conv (by (try simp only [id_eq, stepsO, List.map_cons, List.map_nil, valO, nthO, curO, mrg, List.reverse_cons, List.reverse_nil, List.nil_append, List.cons_append, List.append_nil, List.getElem?_cons_zero, List.getElem?_cons_succ, Option.map_some, Option.getD_some, List.set_cons_zero, List.set_cons_succ, AV.cellsOf, splice_zero, splice_succ, Nat.zero_add, Nat.reduceAdd]); rfl) ?_
      refine J.seq ?_
      refine J.seq ?_
      refine J.region_lit ?_
      refine JL.q rfl rfl rfl (QW.move (.tmp rfl)) ?_
      refine JL.q rfl rfl rfl (QW.field_ptr fo32_3 (.tmp rfl) rfl) ?_
      refine JL.q rfl rfl rfl (QW.load_box1 1 ty30 (.tmp rfl) rfl rfl) ?_
      refine JL.q rfl rfl rfl (by first | exact QW.len_slE sl30 (.tmp rfl) (EX.css_length _ _) | exact QW.len_sl sl30 (.tmp rfl) | exact QW.len_nil sl30 (.tmp rfl)) ?_
      refine JL.q rfl rfl rfl (QW.lss (.tmp rfl) (.tmp rfl)) ?_
      refine JL.nil ?_
      refine thenQ.n ?_
      refine J.cond (.tmp rfl) (fun c2 => ?_) (fun c2 => ?_)
      · skip
        have hlt : j < is.length := by simpa [EX.css_length] using c2
        have hlt2 : j < is'.length := by omega
        refine J.skip ?_
        refine thenQ.n ?_
        refine J.seq ?_
        refine J.block ?_
        refine J.seq ?_
        refine J.regionX mixed ?_
        refine JX.f 0 [] rfl rfl rfl rfl rfl rfl rfl rfl (fun ow_ => (.q rfl (QW.field_ptr fo32_3 (.tmp rfl) rfl))) ?_
        refine JX.o 1 1 [41] rfl rfl rfl rfl rfl rfl rfl rfl rfl (fun ow_ ho_ => (.q rfl (QW.load_box1 1 ty30 (.tmp rfl) ho_ rfl))) ?_
        refine JX.f 2 [] rfl rfl rfl rfl rfl rfl rfl rfl (fun ow_ => (.q rfl (QW.move (.tmp rfl)))) ?_
        refine JX.f 3 [42, 43] rfl rfl rfl rfl rfl rfl rfl rfl (fun ow_ => (.q rfl (QW.index_sl sl30 ty32 rfl (.tmp rfl) (.tmp rfl) (by first | rfl | omega | (simp; done)) (by first | exact EX.css_getE _ hlt | exact EX.css_getE _ hlt2)))) ?_
        refine JX.f 4 [44] rfl rfl rfl rfl rfl rfl rfl rfl (fun ow_ => (.q rfl (by first | exact QW.load_ref ty32 (.tmp rfl) rfl rfl | exact QW.load_ref ty32 (.tmp rfl) (take_at0 (EX.cs_length _ _) rfl) (EX.cs_length _ _)))) ?_
        refine JX.f 5 [] rfl rfl rfl rfl rfl rfl rfl rfl (fun ow_ => (.q rfl (QW.field_ptr fo25_3 (.tmp rfl) rfl))) ?_
        refine JX.o 6 0 [46] rfl rfl rfl rfl rfl rfl rfl rfl rfl (fun ow_ ho_ => (.q rfl (QW.load_box1 0 ty23 (.tmp rfl) ho_ rfl))) ?_
        refine JX.f 7 [] rfl rfl rfl rfl rfl rfl rfl rfl (fun ow_ => (.q rfl (QW.move (.tmp rfl)))) ?_
        refine JX.f 8 [47, 48] rfl rfl rfl rfl rfl rfl rfl rfl (fun ow_ => (.q rfl (QW.index_sl sl23 ty25 rfl (.tmp rfl) (.tmp rfl) (by first | rfl | omega | (simp; done)) (by first | exact EX.css_getE _ hlt | exact EX.css_getE _ hlt2)))) ?_
        refine JX.f 9 [49] rfl rfl rfl rfl rfl rfl rfl rfl (fun ow_ => (.q rfl (by first | exact QW.load_ref ty25 (.tmp rfl) rfl rfl | exact QW.load_ref ty25 (.tmp rfl) (take_at0 (EX.cs_length _ _) rfl) (EX.cs_length _ _)))) ?_
        refine JX.f 10 [45, 50] rfl rfl rfl rfl rfl rfl rfl rfl (fun ow_ => (.q rfl (QW.call gofn15 (.cons (.tmp rfl) (.cons (.tmp rfl) .nil)) (ih Xc.self Xc.self (hwi _ (List.getElem_mem _)) (hwi' _ (List.getElem_mem _)) (EX.sz_get hn hlt))))) ?_
        refine JX.f 11 [51] rfl rfl rfl rfl rfl rfl rfl rfl (fun ow_ => (.q rfl (QW.neq (.tmp rfl) .const))) ?_
        refine JX.fin (by kernel_rfl) (by kernel_rfl) fun bs_ => ?_
        refine QX.conv (by (try simp only [vlF, bxF, tkM, lvM, Flt.val, Flt.bx, List.append_assoc, List.take_succ_cons, List.take_zero, List.append_eq, id_eq, stepsO, List.map_cons, List.map_nil, valO, nthO, curO, mrg, List.reverse_cons, List.reverse_nil, List.nil_append, List.cons_append, List.append_nil, List.getElem?_cons_zero, List.getElem?_cons_succ, Option.map_some, Option.getD_some, List.set_cons_zero, List.set_cons_succ, AV.cellsOf, splice_zero, splice_succ, Nat.zero_add, Nat.reduceAdd]); rfl) ?_
        refine thenQ.n ?_
        refine J.cond (.tmp rfl) (fun c3 => ?_) (fun c3 => ?_)
        · skip
          skip
          refine J.seq ?_
          refine J.region_lit ?_
          refine JL.q rfl rfl rfl (QW.assign .const) ?_
          refine JL.nil ?_
          refine thenQ.n ?_
          refine J.ret ?_
          refine blkQ.r ?_
          refine thenQ.r ?_
          refine thenQ.r ?_
          refine blkQ.r ?_
          refine thenQ.r ?_
          have c3 : (is[j]).same is'[j] = false := by simpa using c3
          have hf : (EX.mk o b t is).same (EX.mk o' b' t' is') = false := by rw [EX.same_mk, hs, esames_drop hlt hlt2, c3]; simp
          exact ⟨_, selP [.k, .k] _, _, RetEv.one rfl (REv.tmp rfl (.refl _)), rfl, sel_perm [.k, .k] _, ⟨by rw [hf]; rfl, rfl⟩⟩
        · skip
          skip
          refine J.skip ?_
          refine blkQ.n ?_
          refine thenQ.n ?_
          refine J.region_lit ?_
          refine JL.q rfl rfl rfl (QW.move (.tmp rfl)) ?_
          refine JL.q rfl rfl rfl (QW.add (.tmp rfl) .const (by first | exact w64n (by first | rfl | omega | (simp; done)) (by omega) | exact w64 (by omega) | rfl)) ?_
          refine JL.q rfl rfl rfl (QW.assign (.tmp rfl)) ?_
          refine JL.nil ?_
          refine thenQ.n ?_
          have c3 : (is[j]).same is'[j] = true := by simpa using c3
          rw [esames_drop hlt hlt2, c3, Bool.true_and] at hs
          exact ⟨j + 1, ⟨hlt, hs⟩, by omega, Wk.re (.cons rfl (.refl _) (.cons rfl (.refl _) (.cons rfl (.refl _) .nil))) (Reown.refl _) (fun _ h => by first | exact h | simp [h])⟩
      · skip
        have hge : is.length ≤ j := by simpa [EX.css_length] using c2
        refine J.exit ?_
        refine thenQ.x ?_
        refine thenQ.x ?_
        refine blkQ.hit ?_
        refine thenQ.n ?_
        refine J.seq ?_
        refine J.region_lit ?_
        refine JL.q rfl rfl rfl (QW.assign .const) ?_
        refine JL.nil ?_
        refine thenQ.n ?_
        refine J.ret ?_
        have hz : EX.sames is is' = true := by
          rw [hs, List.drop_of_length_le hge, List.drop_of_length_le (by omega), EX.sames]
        have hf : (EX.mk o b t is).same (EX.mk o' b' t' is') = true := by rw [EX.same_mk, hz, e1, e3, show b = b' by omega]; simp
        exact ⟨_, selP [.k, .k] _, _, RetEv.one rfl (REv.tmp rfl (.refl _)), rfl, sel_perm [.k, .k] _, ⟨by rw [hf]; rfl, rfl⟩⟩
theorem ealike_ok {v u : EX} {ys zs : List AV} {fr fr2 : Bool} (hv : Xc fr v ys) (hu : Xc fr2 u zs) (hw : v.wf) (hw2 : u.wf) : Fn Try.prog 26 [.agg ys, .agg zs] (.c (.bool (v.same u))) := ealike_n _ hv hu hw hw2 (Nat.le_refl _)
theorem eralike_ok {v u : EX} {ys zs : List AV} {fr fr2 : Bool} (hv : Xc fr v ys) (hu : Xc fr2 u zs) (hw : v.wf) (hw2 : u.wf) : Fn Try.prog 27 [.agg ys, .agg zs] (.c (.bool (v.same u))) := eralike_n _ hv hu hw hw2 (Nat.le_refl _)
theorem elalike_ok {v u : EX} {ys zs : List AV} {fr fr2 : Bool} (hv : Xc fr v ys) (hu : Xc fr2 u zs) (hw : v.wf) (hw2 : u.wf) : Fn Try.prog 15 [.agg ys, .agg zs] (.c (.int .i64 (if v.same u then 0 else 1))) := elalike_n _ hv hu hw hw2 (Nat.le_refl _)
def EX.sameM (v u : EX) : Bool := (v.err == 0 && u.err == 0) && v.same u
theorem esame_ok {v u : EX} {ys zs : List AV} {fr fr2 : Bool} (hv : Xc fr v ys) (hu : Xc fr2 u zs) (hw : v.wf) (hw2 : u.wf) : Fn Try.prog 13 [.agg ys, .agg zs] (.c (.bool (v.sameM u))) := by
  subst hv hu
  refine AC.of_J Try.func13 rfl Try.ntmps13 rfl fun w0 A0 => ?_
  refine J.seq ?_
  refine J.region_lit ?_
  refine JL.box_agg (.tmp rfl) rfl fun b2 => ?_
  refine JL.box_agg (.tmp rfl) rfl fun b3 => ?_
  refine JL.q rfl rfl rfl (QW.assign .const) ?_
  refine JL.nil ?_
  refine thenQ.n ?_
  refine J.seq ?_
  refine J.region_lit ?_
  refine JL.q rfl rfl rfl (by first | exact QW.load_box 1 ty32 (.tmp rfl) rfl rfl rfl | exact QW.load_box 1 ty32 (.tmp rfl) rfl (take_at (EX.cs_length _ _) rfl) (EX.cs_length _ _)) ?_
  refine JL.q rfl rfl rfl (QW.call gofn25 (.cons (.tmp rfl) .nil) (echeck_ok (by first | exact Xc.self | exact Xc.mk) (by assumption))) ?_
  refine JL.q rfl rfl rfl (QW.eql (.tmp rfl) .const) ?_
  refine JL.q rfl rfl rfl (QW.move (.tmp rfl)) ?_
  refine JL.g rfl rfl rfl rfl rfl (fun hg => (by first | exact QW.load_box 0 ty32 (.tmp rfl) rfl rfl rfl | exact QW.load_box 0 ty32 (.tmp rfl) rfl (take_at (EX.cs_length _ _) rfl) (EX.cs_length _ _))) ?_
  refine JL.g rfl rfl rfl rfl rfl (fun hg => (QW.call gofn25 (.cons (.when rfl hg) .nil) (echeck_ok (by first | exact Xc.self | exact Xc.mk) (by assumption)))) ?_
  refine JL.g rfl rfl rfl rfl rfl (fun hg => (QW.eql (.when rfl hg) .const)) ?_
  refine JL.q rfl rfl rfl (QW.pick_and (.tmp rfl) (.tmp rfl)) ?_
  refine JL.q rfl rfl rfl (QW.move (.tmp rfl)) ?_
  refine JL.g rfl rfl rfl rfl rfl (fun hg => (by first | exact QW.load_box 1 ty32 (.tmp rfl) rfl rfl rfl | exact QW.load_box 1 ty32 (.tmp rfl) rfl (take_at (EX.cs_length _ _) rfl) (EX.cs_length _ _))) ?_
  refine JL.g rfl rfl rfl rfl rfl (fun hg => (by first | exact QW.load_box 0 ty32 (.tmp rfl) rfl rfl rfl | exact QW.load_box 0 ty32 (.tmp rfl) rfl (take_at (EX.cs_length _ _) rfl) (EX.cs_length _ _))) ?_
  refine JL.g rfl rfl rfl rfl rfl (fun hg => (QW.call gofn26 (.cons (.when rfl hg) (.cons (.when rfl hg) .nil)) (ealike_ok (by first | exact Xc.self | exact Xc.mk) (by first | exact Xc.self | exact Xc.mk) (by assumption) (by assumption)))) ?_
  refine JL.q rfl rfl rfl (QW.pick_and (.tmp rfl) (.tmp rfl)) ?_
  refine JL.q rfl rfl rfl (QW.assign (.tmp rfl)) ?_
  refine JL.nil ?_
  refine thenQ.n ?_
  refine J.ret ?_
  exact ⟨_, selP [.k, .k] _, _, RetEv.one rfl (REv.tmp rfl (.refl _)), rfl, sel_perm [.k, .k] _, ⟨rfl, rfl⟩⟩
theorem ersame_ok {v u : EX} {ys zs : List AV} {fr fr2 : Bool} (hv : Xc fr v ys) (hu : Xc fr2 u zs) (hw : v.wf) (hw2 : u.wf) : Fn Try.prog 14 [.agg ys, .agg zs] (.c (.bool (v.sameM u))) := by
  subst hv hu
  refine AC.of_J Try.func14 rfl Try.ntmps14 rfl fun w0 A0 => ?_
  refine J.seq ?_
  refine J.region_lit ?_
  refine JL.box_agg (.tmp rfl) rfl fun b2 => ?_
  refine JL.box_agg (.tmp rfl) rfl fun b3 => ?_
  refine JL.q rfl rfl rfl (QW.assign .const) ?_
  refine JL.nil ?_
  refine thenQ.n ?_
  refine J.seq ?_
  refine J.region_lit ?_
  refine JL.q rfl rfl rfl (by first | exact QW.load_box 1 ty25 (.tmp rfl) rfl rfl rfl | exact QW.load_box 1 ty25 (.tmp rfl) rfl (take_at (EX.cs_length _ _) rfl) (EX.cs_length _ _)) ?_
  refine JL.q rfl rfl rfl (QW.call gofn12 (.cons (.tmp rfl) .nil) (ercheck_ok (by first | exact Xc.self | exact Xc.mk) (by assumption))) ?_
  refine JL.q rfl rfl rfl (QW.eql (.tmp rfl) .const) ?_
  refine JL.q rfl rfl rfl (QW.move (.tmp rfl)) ?_
  refine JL.g rfl rfl rfl rfl rfl (fun hg => (by first | exact QW.load_box 0 ty25 (.tmp rfl) rfl rfl rfl | exact QW.load_box 0 ty25 (.tmp rfl) rfl (take_at (EX.cs_length _ _) rfl) (EX.cs_length _ _))) ?_
  refine JL.g rfl rfl rfl rfl rfl (fun hg => (QW.call gofn12 (.cons (.when rfl hg) .nil) (ercheck_ok (by first | exact Xc.self | exact Xc.mk) (by assumption)))) ?_
  refine JL.g rfl rfl rfl rfl rfl (fun hg => (QW.eql (.when rfl hg) .const)) ?_
  refine JL.q rfl rfl rfl (QW.pick_and (.tmp rfl) (.tmp rfl)) ?_
  refine JL.q rfl rfl rfl (QW.move (.tmp rfl)) ?_
  refine JL.g rfl rfl rfl rfl rfl (fun hg => (by first | exact QW.load_box 1 ty25 (.tmp rfl) rfl rfl rfl | exact QW.load_box 1 ty25 (.tmp rfl) rfl (take_at (EX.cs_length _ _) rfl) (EX.cs_length _ _))) ?_
  refine JL.g rfl rfl rfl rfl rfl (fun hg => (by first | exact QW.load_box 0 ty25 (.tmp rfl) rfl rfl rfl | exact QW.load_box 0 ty25 (.tmp rfl) rfl (take_at (EX.cs_length _ _) rfl) (EX.cs_length _ _))) ?_
  refine JL.g rfl rfl rfl rfl rfl (fun hg => (QW.call gofn27 (.cons (.when rfl hg) (.cons (.when rfl hg) .nil)) (eralike_ok (by first | exact Xc.self | exact Xc.mk) (by first | exact Xc.self | exact Xc.mk) (by assumption) (by assumption)))) ?_
  refine JL.q rfl rfl rfl (QW.pick_and (.tmp rfl) (.tmp rfl)) ?_
  refine JL.q rfl rfl rfl (QW.assign (.tmp rfl)) ?_
  refine JL.nil ?_
  refine thenQ.n ?_
  refine J.ret ?_
  exact ⟨_, selP [.k, .k] _, _, RetEv.one rfl (REv.tmp rfl (.refl _)), rfl, sel_perm [.k, .k] _, ⟨rfl, rfl⟩⟩
theorem num14_ok (n : Int) : Fn Try.prog 11 [.c (.int .i64 n)] (.c (.int .i64 n)) := by
  refine AC.of_J Try.func11 rfl Try.ntmps11 rfl fun w0 A0 => ?_
  refine J.seq ?_
  refine J.region_lit ?_
  refine JL.q rfl rfl rfl (QW.assign .const) ?_
  refine JL.nil ?_
  refine thenQ.n ?_
  refine J.seq ?_
  refine J.region_lit ?_
  refine JL.q rfl rfl rfl (QW.move (.tmp rfl)) ?_
  refine JL.q rfl rfl rfl (QW.assign (.tmp rfl)) ?_
  refine JL.nil ?_
  refine thenQ.n ?_
  refine J.ret ?_
  exact ⟨_, selP [] _, _, RetEv.one rfl (REv.tmp rfl (.refl _)), rfl, sel_perm [] _, ⟨rfl, rfl⟩⟩
theorem of14_n  : ∀ (n : Nat) {v : EX} {ys : List AV} {fr : Bool}, Xc fr v ys → v.wf → v.sz ≤ n → AC Try.prog 10 [] [.agg ys] (RetR (CopyE v)) := by
  intro n
  induction n with
  | zero => intro v ys fr hv hw h; exact absurd h (by have := EX.sz_pos v; omega)
  | succ n ih =>
    intro v ys fr hv hw hn
    obtain ⟨o, b, t, is⟩ := v
    subst hv
    obtain ⟨-, -, -, hi80, hwi⟩ := hw.inv
    have h1 : is.length ≤ 9223372036854775806 := by unfold reach at hi80; omega
    refine AC.of_J Try.func10 rfl Try.ntmps10 rfl fun w0 A0 => ?_
    refine J.seq ?_
    refine J.region_lit ?_
    refine JL.box_agg (.tmp rfl) rfl fun b1 => ?_
    refine JL.alloc z32 rfl rfl fun b2 => ?_
    refine JL.nil ?_
    refine thenQ.n ?_
    refine J.seq ?_
    refine J.region_lit ?_
    refine JL.q rfl rfl rfl (QW.field_ptr fo25_0 (.tmp rfl) rfl) ?_
    refine JL.q rfl rfl rfl (QW.load_box1 1 ty3 (.tmp rfl) rfl rfl) ?_
    refine JL.q rfl rfl rfl (QW.field_ptr fo25_1 (.tmp rfl) rfl) ?_
    refine JL.q rfl rfl rfl (QW.load_box1 1 ty22 (.tmp rfl) rfl rfl) ?_
    refine JL.q rfl rfl rfl (QW.field_ptr fo25_2 (.tmp rfl) rfl) ?_
    refine JL.q rfl rfl rfl (QW.load_box1 1 ty9 (.tmp rfl) rfl rfl) ?_
    refine JL.q rfl rfl rfl (QW.build (idx := [0, 1, 2]) pl32 z32 rfl (.cons (.tmp rfl) (.cons (.tmp rfl) (.cons (.tmp rfl) .nil))) rfl rfl rfl rfl) ?_
    refine JL.alloc z32 rfl rfl fun b3 => ?_
    first | refine JL.store_boxF 0 ty32 (.tmp rfl) rfl (.tmp rfl) (by first | rfl | assumption) (rfl) (rfl) rfl ?_ | refine JL.store_boxF 0 ty32 (.tmp rfl) rfl (.tmp rfl) (by first | rfl | assumption) (rfl) (EX.cs_length _ _) rfl ?_ | refine JL.store_boxF 0 ty32 (.tmp rfl) rfl (.tmp rfl) (by first | rfl | assumption) (EX.cs_length _ _) (rfl) rfl ?_ | refine JL.store_boxF 0 ty32 (.tmp rfl) rfl (.tmp rfl) (by first | rfl | assumption) (EX.cs_length _ _) (EX.cs_length _ _) rfl ?_ | refine JL.store_box 0 ty32 (.tmp rfl) rfl (.tmp rfl) (by first | rfl | assumption) rfl rfl rfl rfl ?_ | refine JL.store_box 0 ty32 (.tmp rfl) rfl (.tmp rfl) (by first | rfl | assumption) (EX.cs_length _ _) rfl rfl rfl ?_
    refine JL.nil ?_
    refine thenQ.n ?_
    refine J.seq ?_
    refine J.seq ?_
    refine J.region_lit ?_
    refine JL.q rfl rfl rfl (QW.assign .const) ?_
    refine JL.nil ?_
    refine thenQ.n ?_
    refine J.block ?_
    refine J.reown (Reown.nilArrE eEX _) ?_
    refine J.reown (Reown.nilGrpE _) ?_
    refine J.loopK (ι := Nat × Value × List (List AV) × List Value × Own) [1, 2, 3] (fun ⟨j, v, cs, us, g⟩ => [(4, .c (.int .i64 (j : Int)))]) (fun ⟨j, v, cs, us, g⟩ oo => List.set (List.set (List.set oo 0 (.box b3 ((EX.mk o b t is).raw v))) 3 (.arr v eEX cs)) 4 (g)) (fun ⟨j, v, cs, us, g⟩ => j ≤ is.length ∧ EKids (is.take j) cs us g) (fun ⟨j, v, cs, us, g⟩ => is.length - j) ⟨0, .slice none 0 0, [], [], .grp []⟩ (⟨Nat.zero_le _, .nil⟩) (Wk.re (.cons rfl (.refl _) (.cons rfl (.refl _) (.cons rfl (.refl _) (.cons rfl (.refl _) .nil)))) (Reown.refl _) (fun _ h => by first | exact h | simp [h])) ?_
    intro ⟨j, v, cs, us, g⟩ ⟨hj, hK⟩
    refine J.conv (by (try simp only [id_eq, stepsO, List.map_cons, List.map_nil, valO, nthO, curO, mrg, List.reverse_cons, List.reverse_nil, List.nil_append, List.cons_append, List.append_nil, List.getElem?_cons_zero, List.getElem?_cons_succ, Option.map_some, Option.getD_some, List.set_cons_zero, List.set_cons_succ, AV.cellsOf, splice_zero, splice_succ, Nat.zero_add, Nat.reduceAdd]); rfl) ?_
    refine J.seq ?_
    refine J.seq ?_
    refine J.region_lit ?_
    refine JL.q rfl rfl rfl (QW.move (.tmp rfl)) ?_
    refine JL.q rfl rfl rfl (QW.field_ptr fo25_3 (.tmp rfl) rfl) ?_
    refine JL.q rfl rfl rfl (QW.load_box1 2 ty23 (.tmp rfl) rfl rfl) ?_
    refine JL.q rfl rfl rfl (by first | exact QW.len_slE sl23 (.tmp rfl) (EX.css_length _ _) | exact QW.len_sl sl23 (.tmp rfl) | exact QW.len_nil sl23 (.tmp rfl)) ?_
    refine JL.q rfl rfl rfl (QW.lss (.tmp rfl) (.tmp rfl)) ?_
    refine JL.nil ?_
    refine thenQ.n ?_
    refine J.cond (.tmp rfl) (fun c1 => ?_) (fun c1 => ?_)
    · skip
      have hlt : j < is.length := by simpa [EX.css_length] using c1
      refine J.skip ?_
      refine thenQ.n ?_
      refine J.seq ?_
      refine J.block ?_
      refine J.regionX mixed ?_
      refine JX.f 0 [] rfl rfl rfl rfl rfl rfl rfl rfl (fun ow_ => (.q rfl (QW.field_ptr fo32_3 (.tmp rfl) rfl))) ?_
      refine JX.o 1 0 [19] rfl rfl rfl rfl rfl rfl rfl rfl rfl (fun ow_ ho_ => (.q rfl (QW.load_box1 0 ty30 (.tmp rfl) ho_ rfl))) ?_
      refine JX.f 2 [] rfl rfl rfl rfl rfl rfl rfl rfl (fun ow_ => (.q rfl (QW.field_ptr fo25_3 (.tmp rfl) rfl))) ?_
      refine JX.o 3 2 [21] rfl rfl rfl rfl rfl rfl rfl rfl rfl (fun ow_ ho_ => (.q rfl (QW.load_box1 2 ty23 (.tmp rfl) ho_ rfl))) ?_
      refine JX.f 4 [] rfl rfl rfl rfl rfl rfl rfl rfl (fun ow_ => (.q rfl (QW.move (.tmp rfl)))) ?_
      refine JX.f 5 [22, 23] rfl rfl rfl rfl rfl rfl rfl rfl (fun ow_ => (.q rfl (QW.index_sl sl23 ty25 rfl (.tmp rfl) (.tmp rfl) (by first | rfl | omega | (simp; done)) (by exact EX.css_getE _ hlt)))) ?_
      refine JX.f 6 [24] rfl rfl rfl rfl rfl rfl rfl rfl (fun ow_ => (.q rfl (by first | exact QW.load_ref ty25 (.tmp rfl) rfl rfl | exact QW.load_ref ty25 (.tmp rfl) (take_at0 (EX.cs_length _ _) rfl) (EX.cs_length _ _)))) ?_
      refine JX.one 7 [true, true, true, true, true, false, false] rfl (by kernel_rfl) (by kernel_rfl) rfl rfl (by kernel_rfl) rfl fun bs7_ pe_ ex_ => ?_
      refine JL.conv (by (try simp only [vlF, bxF, tkM, lvM, Flt.val, Flt.bx, List.append_assoc, List.take_succ_cons, List.take_zero, List.append_eq, id_eq, stepsO, List.map_cons, List.map_nil, valO, nthO, curO, mrg, List.reverse_cons, List.reverse_nil, List.nil_append, List.cons_append, List.append_nil, List.getElem?_cons_zero, List.getElem?_cons_succ, Option.map_some, Option.getD_some, List.set_cons_zero, List.set_cons_succ, AV.cellsOf, splice_zero, splice_succ, Nat.zero_add, Nat.reduceAdd]); rfl) ?_
      refine JL.callRF [] gofn10 rfl Lent.nil (fun _ => (.cons (.tmp rfl) .nil)) (ih Xc.self (hwi _ (List.getElem_mem _)) (EX.sz_get hn hlt)) (.inl rfl) fun x26 o26 h26 => ?_
      obtain ⟨iv26, oi26, rfl, rfl, hV26⟩ := h26
      refine JL.nil ?_
      refine thenQ.n ⟨[_], _, rfl, rfl, rfl, rfl, rfl, Reown.mrgN 5 rfl rfl, ⟨rfl, rfl⟩, ⟨rfl, ⟨trivial, trivial⟩⟩, ?_⟩
      refine JX.conv (S' := [7, 6, 5, 4, 3, 2]) rfl (by (try simp only [lvM]); rfl) (by (try simp only [vlF, bxF, tkM, lvM, Flt.val, Flt.bx, List.append_assoc, List.take_succ_cons, List.take_zero, List.append_eq, id_eq, stepsO, List.map_cons, List.map_nil, valO, nthO, curO, mrg, List.reverse_cons, List.reverse_nil, List.nil_append, List.cons_append, List.append_nil, List.getElem?_cons_zero, List.getElem?_cons_succ, Option.map_some, Option.getD_some, List.set_cons_zero, List.set_cons_succ, AV.cellsOf, splice_zero, splice_succ, Nat.zero_add, Nat.reduceAdd]); rfl) ?_
      refine JX.f 8 [26] rfl rfl rfl rfl rfl rfl rfl rfl (fun ow_ => (.q rfl (QW.buildSlice (idx := [0]) (xs := [is[j].raw iv26]) sl30 el32 z32 rfl (.cons (.tmp rfl) .nil) rfl rfl rfl rfl rfl rfl rfl rfl rfl))) ?_
      refine JX.one 9 [true, true, true] rfl (by kernel_rfl) (by kernel_rfl) rfl rfl (by kernel_rfl) rfl fun bs9_ pe_ ex_ => ?_
      refine JL.conv (by (try simp only [vlF, bxF, tkM, lvM, Flt.val, Flt.bx, List.append_assoc, List.take_succ_cons, List.take_zero, List.append_eq, id_eq, stepsO, List.map_cons, List.map_nil, valO, nthO, curO, mrg, List.reverse_cons, List.reverse_nil, List.nil_append, List.cons_append, List.append_nil, List.getElem?_cons_zero, List.getElem?_cons_succ, Option.map_some, Option.getD_some, List.set_cons_zero, List.set_cons_succ, AV.cellsOf, splice_zero, splice_succ, Nat.zero_add, Nat.reduceAdd]); rfl) ?_
      refine JL.append 3 sl30 el32 rfl (.tmp rfl) rfl (srcA_sl sl30 (.tmp rfl)) (by have := hK.h2; rw [List.length_take] at this; simp; unfold reach at *; omega) rfl fun v28 => ?_
      refine JL.nil ?_
      refine thenQ.n ⟨[_], _, rfl, rfl, rfl, rfl, rfl, Reown.tkN 6 rfl, ⟨rfl, rfl⟩, trivial, ?_⟩
      refine JX.conv (S' := [9, 8, 1, 0, 7, 6, 5, 4, 3, 2]) rfl (by (try simp only [lvM]); rfl) (by (try simp only [vlF, bxF, tkM, lvM, Flt.val, Flt.bx, List.append_assoc, List.take_succ_cons, List.take_zero, List.append_eq, id_eq, stepsO, List.map_cons, List.map_nil, valO, nthO, curO, mrg, List.reverse_cons, List.reverse_nil, List.nil_append, List.cons_append, List.append_nil, List.getElem?_cons_zero, List.getElem?_cons_succ, Option.map_some, Option.getD_some, List.set_cons_zero, List.set_cons_succ, AV.cellsOf, splice_zero, splice_succ, Nat.zero_add, Nat.reduceAdd]); rfl) ?_
      refine JX.f 10 [] rfl rfl rfl rfl rfl rfl rfl rfl (fun ow_ => (.q rfl (QW.field_ptr fo32_3 (.tmp rfl) rfl))) ?_
      refine JX.one 11 [true] rfl (by kernel_rfl) (by kernel_rfl) rfl rfl (by kernel_rfl) rfl fun bs11_ pe_ ex_ => ?_
      refine JL.conv (by (try simp only [vlF, bxF, tkM, lvM, Flt.val, Flt.bx, List.append_assoc, List.take_succ_cons, List.take_zero, List.append_eq, id_eq, stepsO, List.map_cons, List.map_nil, valO, nthO, curO, mrg, List.reverse_cons, List.reverse_nil, List.nil_append, List.cons_append, List.append_nil, List.getElem?_cons_zero, List.getElem?_cons_succ, Option.map_some, Option.getD_some, List.set_cons_zero, List.set_cons_succ, AV.cellsOf, splice_zero, splice_succ, Nat.zero_add, Nat.reduceAdd]); rfl) ?_
      refine JL.isSlice 3 rfl fun hs2 => ?_
      refine JL.store_box 0 ty30 (.tmp rfl) rfl (.tmp rfl) (by first | rfl | assumption) rfl rfl rfl rfl ?_
      refine JL.nil ?_
      refine thenQ.n ⟨[], _, rfl, rfl, rfl, rfl, rfl, Reown.tkN 6 rfl, trivial, trivial, ?_⟩
      refine JX.conv (S' := [11, 10, 9, 8, 1, 0, 7, 6, 5, 4, 3, 2]) rfl (by (try simp only [lvM]); rfl) (by (try simp only [vlF, bxF, tkM, lvM, Flt.val, Flt.bx, List.append_assoc, List.take_succ_cons, List.take_zero, List.append_eq, id_eq, stepsO, List.map_cons, List.map_nil, valO, nthO, curO, mrg, List.reverse_cons, List.reverse_nil, List.nil_append, List.cons_append, List.append_nil, List.getElem?_cons_zero, List.getElem?_cons_succ, Option.map_some, Option.getD_some, List.set_cons_zero, List.set_cons_succ, AV.cellsOf, splice_zero, splice_succ, Nat.zero_add, Nat.reduceAdd]); rfl) ?_
      refine JX.fin (by kernel_rfl) (by kernel_rfl) fun bs_ => ?_
      refine QX.conv (by (try simp only [vlF, bxF, tkM, lvM, Flt.val, Flt.bx, List.append_assoc, List.take_succ_cons, List.take_zero, List.append_eq, id_eq, stepsO, List.map_cons, List.map_nil, valO, nthO, curO, mrg, List.reverse_cons, List.reverse_nil, List.nil_append, List.cons_append, List.append_nil, List.getElem?_cons_zero, List.getElem?_cons_succ, Option.map_some, Option.getD_some, List.set_cons_zero, List.set_cons_succ, AV.cellsOf, splice_zero, splice_succ, Nat.zero_add, Nat.reduceAdd]); rfl) ?_
      refine blkQ.n ?_
      refine thenQ.n ?_
      refine J.region_lit ?_
      refine JL.q rfl rfl rfl (QW.move (.tmp rfl)) ?_
      refine JL.q rfl rfl rfl (QW.add (.tmp rfl) .const (by first | exact w64n (by first | rfl | omega | (simp; done)) (by omega) | exact w64 (by omega) | rfl)) ?_
      refine JL.q rfl rfl rfl (QW.assign (.tmp rfl)) ?_
      refine JL.nil ?_
      refine thenQ.n ?_
      exact ⟨⟨j + 1, _, _, _, _⟩, ⟨hlt, by rw [List.take_succ_eq_append_getElem hlt]; exact hK.snoc hV26⟩, by show is.length - (j + 1) < is.length - j; omega, Wk.re (.cons rfl (.refl _) (.cons rfl (.refl _) (.cons rfl (.refl _) (.cons rfl (.refl _) .nil)))) ((Reown.cons (Reown.cons (Reown.cons (Reown.cons (Reown.grp2 _ _ _)))))) (fun _ h => by first | exact h | simp [h])⟩
    · skip
      have hge : is.length ≤ j := by simpa [EX.css_length] using c1
      refine J.exit ?_
      refine thenQ.x ?_
      refine thenQ.x ?_
      refine blkQ.hit ?_
      refine thenQ.n ?_
      refine J.seq ?_
      refine J.isSlice 3 rfl fun hs1 => ?_
      refine J.reown (Reown.cons (Reown.cons (Reown.cons (Reown.grp2 _ _ _)))) ?_
      refine J.region_lit ?_
      refine JL.q rfl rfl rfl (by first | exact QW.load_box 0 ty32 (.tmp rfl) rfl rfl rfl | exact QW.load_box 0 ty32 (.tmp rfl) rfl (take_at (EX.cs_length _ _) rfl) (EX.cs_length _ _)) ?_
      first | refine JL.store_boxF 1 ty32 (.tmp rfl) rfl (.tmp rfl) (by first | rfl | assumption) (rfl) (rfl) rfl ?_ | refine JL.store_boxF 1 ty32 (.tmp rfl) rfl (.tmp rfl) (by first | rfl | assumption) (rfl) (EX.cs_length _ _) rfl ?_ | refine JL.store_boxF 1 ty32 (.tmp rfl) rfl (.tmp rfl) (by first | rfl | assumption) (EX.cs_length _ _) (rfl) rfl ?_ | refine JL.store_boxF 1 ty32 (.tmp rfl) rfl (.tmp rfl) (by first | rfl | assumption) (EX.cs_length _ _) (EX.cs_length _ _) rfl ?_ | refine JL.store_box 1 ty32 (.tmp rfl) rfl (.tmp rfl) (by first | rfl | assumption) rfl rfl rfl rfl ?_ | refine JL.store_box 1 ty32 (.tmp rfl) rfl (.tmp rfl) (by first | rfl | assumption) (EX.cs_length _ _) rfl rfl rfl ?_
      refine JL.nil ?_
      refine thenQ.n ?_
      refine J.ret ?_
      obtain rfl : j = is.length := by omega
      rw [List.take_length] at hK
      exact ⟨_, selP [.k, .k, .k, .p] _, _, RetEv.one rfl (by first | exact REv.cell 1 ty32 rfl rfl rfl rfl (.refl _) | exact REv.cell 1 ty32 rfl rfl (take_at (EX.cs_length _ _) rfl) (EX.cs_length _ _) (.refl _)), rfl, sel_perm [.k, .k, .k, .p] _, ⟨_, rfl, _, _, rfl, rfl, hs1, hK.tr hi80⟩⟩
theorem of14_own {v : EX} {ys : List AV} {fr : Bool} (hv : Xc fr v ys) (hw : v.wf) : AC Try.prog 10 [] [.agg ys] (RetR (CopyE v)) := of14_n _ hv hw (Nat.le_refl _)
theorem of14_ok {v : EX} {ys : List AV} {fr : Bool} (hv : Xc fr v ys) (hw : v.wf) : Fn Try.prog 10 [.agg ys] (.agg (v.cs true)) := Fn.ofCopyE (of14_own hv hw)
end Go.Proofs.Ytlppnhkjonmniaa.J

/- Walks: Encode: what a round of its range does. -/
namespace Go.Proofs.Ytlppnhkjonmniaa.J
open Go Go.RowKit
set_option linter.unusedVariables false
set_option linter.unusedSimpArgs false
set_option maxRecDepth 10000
set_option maxHeartbeats 4000000
/-- What Encode owns between two rounds. -/
def encO (b5 : Nat) (s : Value × List UInt8) : List Own := [.box b5 [.c s.1], .arr s.1 eU8 (bytesAV s.2)]
def encP {w0 : World} {A0 : Foot} {fr : Bool} (pre : List (EArg w0 A0 fr)) (s : Value × List UInt8) : Prop := s.2 = octL (pre.map (·.1.2))
def encM {w0 : World} {A0 : Foot} {fr : Bool} (b5 : Nat) (F : List (Value × AV)) (pre : List (EArg w0 A0 fr)) (x : EArg w0 A0 fr) (s : St) : Prop :=
  ∃ b6 t, encP pre t ∧ s = ⟨61, [(6, .c (.pointer (some ⟨b6, 0, none⟩))), (5, .c (.pointer (some ⟨b5, 0, none⟩)))], .box b6 (x.1.2.cs fr) :: encO b5 t, F, []⟩
theorem encAssign {w0 w1 : World} {A0 A1 : Foot} {fr : Bool} {b5 l : Nat} {F : List (Value × AV)} {pre : List (EArg w0 A0 fr)} {x : EArg w0 A0 fr} {t : Value × List UInt8} (hp : encP pre t) :
    J Try.prog ⟨w1, fps (encO b5 t), A1, some l⟩ (rAssign Try.f16) ⟨61, (14, .agg (x.1.2.cs fr)) :: [(5, .c (.pointer (some ⟨b5, 0, none⟩)))], encO b5 t, F, []⟩ (fun e s => e = .normal ∧ encM b5 F pre x s) := by
  refine J.region_lit (JL.alloc z32 rfl rfl fun b6 => ?_)
  refine JL.store_boxF (z := .agg (x.1.2.cs fr)) 0 ty32 (.tmp rfl) rfl (.tmp rfl) rfl (EX.cs_length _ _) rfl rfl ?_
  refine JL.weak (Wk.re (.cons rfl (.refl _) (.cons rfl (.refl _) .nil)) (Reown.refl _) (fun _ h => h)) (JL.nil ⟨rfl, b6, t, hp, rfl⟩)
theorem encBody {w0 w1 : World} {A0 A1 : Foot} {fr : Bool} {b5 lp : Nat} {F : List (Value × AV)} {pre : List (EArg w0 A0 fr)} {x : EArg w0 A0 fr} {s : St} (hM : encM b5 F pre x s) (hlen : pre.length < 64) :
    J Try.prog ⟨w1, fps s.own, A1, some lp⟩ (rBody Try.f16) s (fun e s' => e = .normal ∧ ∃ (s2 : Value × List UInt8) (dr : List Own), encP (pre ++ [x]) s2 ∧ s'.own.Perm (encO b5 s2 ++ dr)) := by
  obtain ⟨b6, ⟨av, l⟩, hpl, rfl⟩ := hM
  generalize hxe : x.1.2 = xe
  have hxf : xe.Fine := hxe ▸ x.2.2.2
  have hxw : xe.wf := hxe ▸ x.2.2.1
  obtain ⟨o, b, t, is⟩ := xe
  obtain ⟨ho0, ho30, ht128, his8⟩ := hxf.bounds
  simp only [EX.op, EX.text, EX.args] at ho0 ho30 ht128 his8
  obtain ⟨-, hb64, -, -, -⟩ := hxw.inv
  have hpl0 : l = octL (pre.map (·.1.2)) := hpl
  replace hpl := hpl0
  have hl : l.length ≤ 8320 := by
    have := octL_len (l := pre.map (·.1.2)) (fun e he => by obtain ⟨y, _, rfl⟩ := List.mem_map.1 he; exact y.2.2.2)
    rw [List.length_map] at this
    rw [hpl]; omega
  refine J.block ?_
  refine J.seq ?_
  refine J.region_lit ?_
  refine JL.q rfl rfl rfl (QW.load_box1 1 ty40 (.tmp rfl) rfl rfl) ?_
  refine JL.q rfl rfl rfl (QW.field_ptr fo32_0 (.tmp rfl) rfl) ?_
  refine JL.q rfl rfl rfl (QW.load_box1 0 ty3 (.tmp rfl) rfl rfl) ?_
  refine JL.q rfl rfl rfl (QW.conv_int us3 iu5 (.tmp rfl) (c := ((o.toNat : Nat) : Int)) (by rw [show ((o.toNat : Nat) : Int) = o by omega]; exact wu8 (by omega))) ?_
  refine JL.q rfl rfl rfl (QW.buildSlice (idx := [0]) (xs := [[.c (.int .u8 ((o.toNat : Nat) : Int))]]) sl40 el5 z5 rfl (.cons (.tmp rfl) .nil) rfl rfl rfl rfl rfl rfl rfl rfl rfl) ?_
  refine JL.append 2 sl40 el5 rfl (.tmp rfl) rfl (srcA_sl sl40 (.tmp rfl)) (by simp only [List.length_append, List.length_cons, List.length_nil, bytesAV_length, List.length_take, be8_length] <;> (show _ * 1 ≤ _) <;> unfold reach <;> omega) rfl fun v20 => ?_
  refine JL.isSlice 2 rfl fun hs1 => ?_
  refine JL.store_box 1 ty40 (.tmp rfl) rfl (.tmp rfl) (by first | rfl | assumption) rfl rfl rfl rfl ?_
  refine JL.nil ?_
  refine thenQ.n ?_
  refine J.seq ?_
  refine J.region_lit ?_
  refine JL.q rfl rfl rfl (QW.field_ptr fo32_0 (.tmp rfl) rfl) ?_
  refine JL.q rfl rfl rfl (QW.load_box1 0 ty3 (.tmp rfl) rfl rfl) ?_
  refine JL.nil ?_
  refine thenQ.n ?_
  refine J.block ?_
  refine J.seq ?_
  refine J.region_lit ?_
  refine JL.q rfl rfl rfl (QW.eql (.tmp rfl) .const) ?_
  refine JL.q rfl rfl rfl (QW.assign (.tmp rfl)) ?_
  refine JL.nil ?_
  refine thenQ.n ?_
  refine J.cond (.tmp rfl) (fun c1 => ?_) (fun c1 => ?_)
  · skip
    obtain rfl : o = 3 := by simpa using c1
    refine J.seq ?_
    refine J.region_lit ?_
    refine JL.q rfl rfl rfl (QW.assign .const) ?_
    refine JL.nil ?_
    refine thenQ.n ?_
    refine J.block ?_
    refine J.loopK (ι := Nat × Value) [5, 6] (fun ⟨j, av2⟩ => [(7, .c (.int .i64 (56 - 8 * (j : Int))))]) (fun ⟨j, av2⟩ oo => List.set (List.set oo 1 (.box b5 [.c av2])) 2 (.arr av2 eU8 (bytesAV (l ++ (UInt8.ofNat (3 : Int).toNat :: (be8 b).take j))))) (fun ⟨j, av2⟩ => j ≤ 8) (fun ⟨j, av2⟩ => 8 - j) ⟨0, v20⟩ (Nat.zero_le _) (Wk.re (.cons rfl (.refl _) (.cons rfl (.refl _) (.cons rfl (.refl _) .nil))) (Reown.ofEq (by show [_, _, Own.arr v20 eU8 (bytesAV l ++ [[.c (.int .u8 (((3 : Int).toNat : Nat) : Int))]])] = [_, _, Own.arr v20 eU8 (bytesAV (l ++ [UInt8.ofNat (3 : Int).toNat]))]; rw [bytesAV_snoc (by decide)]; rfl)) (fun _ h => by first | exact h | simp [h])) ?_
    intro ⟨j, av2⟩ hj
    refine J.conv (by (try simp only [id_eq, stepsO, List.map_cons, List.map_nil, valO, nthO, curO, mrg, List.reverse_cons, List.reverse_nil, List.nil_append, List.cons_append, List.append_nil, List.getElem?_cons_zero, List.getElem?_cons_succ, Option.map_some, Option.getD_some, List.set_cons_zero, List.set_cons_succ, AV.cellsOf, splice_zero, splice_succ, Nat.zero_add, Nat.reduceAdd]); rfl) ?_
    refine J.seq ?_
    refine J.seq ?_
    refine J.region_lit ?_
    refine JL.q rfl rfl rfl (QW.move (.tmp rfl)) ?_
    refine JL.q rfl rfl rfl (QW.geq (.tmp rfl) .const) ?_
    refine JL.nil ?_
    refine thenQ.n ?_
    refine J.cond (.tmp rfl) (fun c2 => ?_) (fun c2 => ?_)
    · skip
      have hlt : j < 8 := by (simp at c2; omega)
      refine J.skip ?_
      refine thenQ.n ?_
      refine J.seq ?_
      refine J.block ?_
      refine J.regionX mixed ?_
      refine JX.o 0 1 [] rfl rfl rfl rfl rfl rfl rfl rfl rfl (fun ow_ ho_ => (.q rfl (QW.load_box1 1 ty40 (.tmp rfl) ho_ rfl))) ?_
      refine JX.f 1 [] rfl rfl rfl rfl rfl rfl rfl rfl (fun ow_ => (.q rfl (QW.field_ptr fo32_1 (.tmp rfl) rfl))) ?_
      refine JX.o 2 0 [30] rfl rfl rfl rfl rfl rfl rfl rfl rfl (fun ow_ ho_ => (.q rfl (QW.load_box1 0 ty22 (.tmp rfl) ho_ rfl))) ?_
      refine JX.f 3 [] rfl rfl rfl rfl rfl rfl rfl rfl (fun ow_ => (.q rfl (QW.move (.tmp rfl)))) ?_
      refine JX.f 4 [31, 32] rfl rfl rfl rfl rfl rfl rfl rfl (fun ow_ => (.q rfl (QW.shr (.tmp rfl) (.tmp rfl) (by omega) (shr8 hlt)))) ?_
      refine JX.f 5 [33] rfl rfl rfl rfl rfl rfl rfl rfl (fun ow_ => (.q rfl (QW.conv_int us22 iu5 (.tmp rfl) (c := ((b / 2 ^ (56 - 8 * j) % 256 : Nat) : Int)) (by rw [wu8_mod]; omega)))) ?_
      refine JX.f 6 [34] rfl rfl rfl rfl rfl rfl rfl rfl (fun ow_ => (.q rfl (QW.buildSlice (idx := [0]) (xs := [[.c (.int .u8 ((b / 2 ^ (56 - 8 * j) % 256 : Nat) : Int))]]) sl40 el5 z5 rfl (.cons (.tmp rfl) .nil) rfl rfl rfl rfl rfl rfl rfl rfl rfl))) ?_
      refine JX.one 7 [true, true, true, true, true, true, true] rfl (by kernel_rfl) (by kernel_rfl) rfl rfl (by kernel_rfl) rfl fun bs7_ pe_ ex_ => ?_
      refine JL.conv (by (try simp only [vlF, bxF, tkM, lvM, Flt.val, Flt.bx, List.append_assoc, List.take_succ_cons, List.take_zero, List.append_eq, id_eq, stepsO, List.map_cons, List.map_nil, valO, nthO, curO, mrg, List.reverse_cons, List.reverse_nil, List.nil_append, List.cons_append, List.append_nil, List.getElem?_cons_zero, List.getElem?_cons_succ, Option.map_some, Option.getD_some, List.set_cons_zero, List.set_cons_succ, AV.cellsOf, splice_zero, splice_succ, Nat.zero_add, Nat.reduceAdd]); rfl) ?_
      refine JL.append 2 sl40 el5 rfl (.tmp rfl) rfl (srcA_sl sl40 (.tmp rfl)) (by simp only [List.length_append, List.length_cons, List.length_nil, bytesAV_length, List.length_take, be8_length] <;> (show _ * 1 ≤ _) <;> unfold reach <;> omega) rfl fun v36 => ?_
      refine JL.nil ?_
      refine thenQ.n ⟨[_], _, rfl, rfl, rfl, rfl, rfl, Reown.tkN 3 rfl, ⟨rfl, rfl⟩, trivial, ?_⟩
      refine JX.conv (S' := [7, 6, 5, 4, 3, 2, 1, 0]) rfl (by (try simp only [lvM]); rfl) (by (try simp only [vlF, bxF, tkM, lvM, Flt.val, Flt.bx, List.append_assoc, List.take_succ_cons, List.take_zero, List.append_eq, id_eq, stepsO, List.map_cons, List.map_nil, valO, nthO, curO, mrg, List.reverse_cons, List.reverse_nil, List.nil_append, List.cons_append, List.append_nil, List.getElem?_cons_zero, List.getElem?_cons_succ, Option.map_some, Option.getD_some, List.set_cons_zero, List.set_cons_succ, AV.cellsOf, splice_zero, splice_succ, Nat.zero_add, Nat.reduceAdd]); rfl) ?_
      refine JX.one 8 [] rfl (by kernel_rfl) (by kernel_rfl) rfl rfl (by kernel_rfl) rfl fun bs8_ pe_ ex_ => ?_
      refine JL.conv (by (try simp only [vlF, bxF, tkM, lvM, Flt.val, Flt.bx, List.append_assoc, List.take_succ_cons, List.take_zero, List.append_eq, id_eq, stepsO, List.map_cons, List.map_nil, valO, nthO, curO, mrg, List.reverse_cons, List.reverse_nil, List.nil_append, List.cons_append, List.append_nil, List.getElem?_cons_zero, List.getElem?_cons_succ, Option.map_some, Option.getD_some, List.set_cons_zero, List.set_cons_succ, AV.cellsOf, splice_zero, splice_succ, Nat.zero_add, Nat.reduceAdd]); rfl) ?_
      refine JL.isSlice 2 rfl fun hs2 => ?_
      refine JL.store_box 1 ty40 (.tmp rfl) rfl (.tmp rfl) (by first | rfl | assumption) rfl rfl rfl rfl ?_
      refine JL.nil ?_
      refine thenQ.n ⟨[], _, rfl, rfl, rfl, rfl, rfl, Reown.tkN 3 rfl, trivial, trivial, ?_⟩
      refine JX.conv (S' := [8, 7, 6, 5, 4, 3, 2, 1, 0]) rfl (by (try simp only [lvM]); rfl) (by (try simp only [vlF, bxF, tkM, lvM, Flt.val, Flt.bx, List.append_assoc, List.take_succ_cons, List.take_zero, List.append_eq, id_eq, stepsO, List.map_cons, List.map_nil, valO, nthO, curO, mrg, List.reverse_cons, List.reverse_nil, List.nil_append, List.cons_append, List.append_nil, List.getElem?_cons_zero, List.getElem?_cons_succ, Option.map_some, Option.getD_some, List.set_cons_zero, List.set_cons_succ, AV.cellsOf, splice_zero, splice_succ, Nat.zero_add, Nat.reduceAdd]); rfl) ?_
      refine JX.fin (by kernel_rfl) (by kernel_rfl) fun bs_ => ?_
      refine QX.conv (by (try simp only [vlF, bxF, tkM, lvM, Flt.val, Flt.bx, List.append_assoc, List.take_succ_cons, List.take_zero, List.append_eq, id_eq, stepsO, List.map_cons, List.map_nil, valO, nthO, curO, mrg, List.reverse_cons, List.reverse_nil, List.nil_append, List.cons_append, List.append_nil, List.getElem?_cons_zero, List.getElem?_cons_succ, Option.map_some, Option.getD_some, List.set_cons_zero, List.set_cons_succ, AV.cellsOf, splice_zero, splice_succ, Nat.zero_add, Nat.reduceAdd]); rfl) ?_
      refine blkQ.n ?_
      refine thenQ.n ?_
      refine J.region_lit ?_
      refine JL.q rfl rfl rfl (QW.move (.tmp rfl)) ?_
      refine JL.q rfl rfl rfl (QW.sub (c := 56 - 8 * ((j + 1 : Nat) : Int)) (.tmp rfl) .const (by rw [w64 (by omega)]; omega)) ?_
      refine JL.q rfl rfl rfl (QW.assign (.tmp rfl)) ?_
      refine JL.nil ?_
      refine thenQ.n ?_
      exact ⟨⟨j + 1, v36⟩, hlt, by show 8 - (j + 1) < 8 - j; omega, Wk.re (.cons rfl (.refl _) (.cons rfl (.refl _) (.cons rfl (.refl _) .nil))) (Reown.ofEq (by show [_, _, Own.arr v36 eU8 (bytesAV (l ++ (UInt8.ofNat (3 : Int).toNat :: (be8 b).take j)) ++ [[.c (.int .u8 ((b / 2 ^ (56 - 8 * j) % 256 : Nat) : Int))]])] = [_, _, Own.arr v36 eU8 (bytesAV (l ++ (UInt8.ofNat (3 : Int).toNat :: (be8 b).take (j + 1))))]; rw [be8_take hlt, ← List.cons_append, ← List.append_assoc, bytesAV_snoc (Nat.mod_lt _ (by decide))])) (fun _ h => by first | exact h | simp [h])⟩
    · skip
      obtain rfl : j = 8 := by (simp at c2; omega)
      refine J.exit ?_
      refine thenQ.x ?_
      refine thenQ.x ?_
      refine blkQ.hit ?_
      refine blkQ.n ?_
      refine blkQ.n ?_
      have ho : (EX.mk 3 b t is).oct1 = UInt8.ofNat (3 : Int).toNat :: be8 b := by simp [EX.oct1, EX.op, EX.bits]
      have hL : bytesAV (l ++ (EX.mk 3 b t is).oct1) = bytesAV (l ++ (UInt8.ofNat (3 : Int).toNat :: (be8 b).take 8)) := by rw [ho]; rfl
      exact ⟨rfl, (av2, l ++ (EX.mk 3 b t is).oct1), [_], by show _ = octL _; rw [List.map_append, octL_append, ← hpl]; show _ = l ++ octL [x.1.2]; rw [hxe]; simp [octL], by show List.Perm [_, _, Own.arr _ eU8 _] ([_, Own.arr _ eU8 (bytesAV (l ++ (EX.mk 3 b t is).oct1))] ++ [_]); rw [hL]; exact (List.perm_append_comm (l₁ := [_]))⟩
  · skip
    have o3 : o ≠ 3 := by simpa using c1
    refine J.seq ?_
    refine J.seq ?_
    refine J.region_lit ?_
    refine JL.q rfl rfl rfl (QW.eql (.tmp rfl) .const) ?_
    refine JL.q rfl rfl rfl (QW.assign (.tmp rfl)) ?_
    refine JL.nil ?_
    refine thenQ.n ?_
    refine J.cond (.tmp rfl) (fun c2 => ?_) (fun c2 => ?_)
    · skip
      obtain rfl : o = 4 := by simpa using c2
      refine J.skip ?_
      refine thenQ.n ?_
      refine J.cond (.tmp rfl) (fun c3 => ?_) (fun c3 => absurd c3 (by simp))
      refine J.regionX mixed ?_
      refine JX.o 0 1 [] rfl rfl rfl rfl rfl rfl rfl rfl rfl (fun ow_ ho_ => (.q rfl (QW.load_box1 1 ty40 (.tmp rfl) ho_ rfl))) ?_
      refine JX.f 1 [] rfl rfl rfl rfl rfl rfl rfl rfl (fun ow_ => (.q rfl (QW.field_ptr fo32_2 (.tmp rfl) rfl))) ?_
      refine JX.o 2 0 [42] rfl rfl rfl rfl rfl rfl rfl rfl rfl (fun ow_ ho_ => (.q rfl (QW.load_box1 0 ty9 (.tmp rfl) ho_ rfl))) ?_
      refine JX.f 3 [43] rfl rfl rfl rfl rfl rfl rfl rfl (fun ow_ => (.q rfl (QW.len_s st9 (.tmp rfl)))) ?_
      refine JX.f 4 [44] rfl rfl rfl rfl rfl rfl rfl rfl (fun ow_ => (.q rfl (QW.conv_int us3 iu5 (.tmp rfl) (c := ((t.length : Nat) : Int)) (wu8 (by omega))))) ?_
      refine JX.f 5 [45] rfl rfl rfl rfl rfl rfl rfl rfl (fun ow_ => (.q rfl (QW.buildSlice (idx := [0]) (xs := [[.c (.int .u8 ((t.length : Nat) : Int))]]) sl40 el5 z5 rfl (.cons (.tmp rfl) .nil) rfl rfl rfl rfl rfl rfl rfl rfl rfl))) ?_
      refine JX.f 7 [] rfl rfl rfl rfl rfl rfl rfl rfl (fun ow_ => (.q rfl (QW.field_ptr fo32_2 (.tmp rfl) rfl))) ?_
      refine JX.o 8 0 [48] rfl rfl rfl rfl rfl rfl rfl rfl rfl (fun ow_ ho_ => (.q rfl (QW.load_box1 0 ty9 (.tmp rfl) ho_ rfl))) ?_
      refine JX.one 6 [false, false, true, true, true, true, true, true] rfl (by kernel_rfl) (by kernel_rfl) rfl rfl (by kernel_rfl) rfl fun bs6_ pe_ ex_ => ?_
      refine JL.conv (by (try simp only [vlF, bxF, tkM, lvM, Flt.val, Flt.bx, List.append_assoc, List.take_succ_cons, List.take_zero, List.append_eq, id_eq, stepsO, List.map_cons, List.map_nil, valO, nthO, curO, mrg, List.reverse_cons, List.reverse_nil, List.nil_append, List.cons_append, List.append_nil, List.getElem?_cons_zero, List.getElem?_cons_succ, Option.map_some, Option.getD_some, List.set_cons_zero, List.set_cons_succ, AV.cellsOf, splice_zero, splice_succ, Nat.zero_add, Nat.reduceAdd]); rfl) ?_
      refine JL.append 2 sl40 el5 rfl (.tmp rfl) rfl (srcA_sl sl40 (.tmp rfl)) (by simp only [List.length_append, List.length_cons, List.length_nil, bytesAV_length, List.length_take, be8_length] <;> (show _ * 1 ≤ _) <;> unfold reach <;> omega) rfl fun v47 => ?_
      refine JL.nil ?_
      refine thenQ.n ⟨[_], _, rfl, rfl, rfl, rfl, rfl, Reown.tkN 3 rfl, ⟨rfl, rfl⟩, ⟨rfl, ⟨trivial, trivial⟩⟩, ?_⟩
      refine JX.conv (S' := [6, 5, 4, 3, 2, 1, 0]) rfl (by (try simp only [lvM]); rfl) (by (try simp only [vlF, bxF, tkM, lvM, Flt.val, Flt.bx, List.append_assoc, List.take_succ_cons, List.take_zero, List.append_eq, id_eq, stepsO, List.map_cons, List.map_nil, valO, nthO, curO, mrg, List.reverse_cons, List.reverse_nil, List.nil_append, List.cons_append, List.append_nil, List.getElem?_cons_zero, List.getElem?_cons_succ, Option.map_some, Option.getD_some, List.set_cons_zero, List.set_cons_succ, AV.cellsOf, splice_zero, splice_succ, Nat.zero_add, Nat.reduceAdd]); rfl) ?_
      refine JX.one 9 [true, true] rfl (by kernel_rfl) (by kernel_rfl) rfl rfl (by kernel_rfl) rfl fun bs9_ pe_ ex_ => ?_
      refine JL.conv (by (try simp only [vlF, bxF, tkM, lvM, Flt.val, Flt.bx, List.append_assoc, List.take_succ_cons, List.take_zero, List.append_eq, id_eq, stepsO, List.map_cons, List.map_nil, valO, nthO, curO, mrg, List.reverse_cons, List.reverse_nil, List.nil_append, List.cons_append, List.append_nil, List.getElem?_cons_zero, List.getElem?_cons_succ, Option.map_some, Option.getD_some, List.set_cons_zero, List.set_cons_succ, AV.cellsOf, splice_zero, splice_succ, Nat.zero_add, Nat.reduceAdd]); rfl) ?_
      refine JL.append 2 sl40 el5 rfl (.tmp rfl) rfl (srcA_str st9 (.tmp rfl)) (by simp only [List.length_append, List.length_cons, List.length_nil, bytesAV_length, List.length_take, be8_length] <;> (show _ * 1 ≤ _) <;> unfold reach <;> omega) rfl fun v50 => ?_
      refine JL.nil ?_
      refine thenQ.n ⟨[_], _, rfl, rfl, rfl, rfl, rfl, Reown.tkN 3 rfl, ⟨rfl, rfl⟩, trivial, ?_⟩
      refine JX.conv (S' := [9, 8, 7, 6, 5, 4, 3, 2, 1, 0]) rfl (by (try simp only [lvM]); rfl) (by (try simp only [vlF, bxF, tkM, lvM, Flt.val, Flt.bx, List.append_assoc, List.take_succ_cons, List.take_zero, List.append_eq, id_eq, stepsO, List.map_cons, List.map_nil, valO, nthO, curO, mrg, List.reverse_cons, List.reverse_nil, List.nil_append, List.cons_append, List.append_nil, List.getElem?_cons_zero, List.getElem?_cons_succ, Option.map_some, Option.getD_some, List.set_cons_zero, List.set_cons_succ, AV.cellsOf, splice_zero, splice_succ, Nat.zero_add, Nat.reduceAdd]); rfl) ?_
      refine JX.one 10 [] rfl (by kernel_rfl) (by kernel_rfl) rfl rfl (by kernel_rfl) rfl fun bs10_ pe_ ex_ => ?_
      refine JL.conv (by (try simp only [vlF, bxF, tkM, lvM, Flt.val, Flt.bx, List.append_assoc, List.take_succ_cons, List.take_zero, List.append_eq, id_eq, stepsO, List.map_cons, List.map_nil, valO, nthO, curO, mrg, List.reverse_cons, List.reverse_nil, List.nil_append, List.cons_append, List.append_nil, List.getElem?_cons_zero, List.getElem?_cons_succ, Option.map_some, Option.getD_some, List.set_cons_zero, List.set_cons_succ, AV.cellsOf, splice_zero, splice_succ, Nat.zero_add, Nat.reduceAdd]); rfl) ?_
      refine JL.isSlice 2 rfl fun hs2 => ?_
      refine JL.store_box 1 ty40 (.tmp rfl) rfl (.tmp rfl) (by first | rfl | assumption) rfl rfl rfl rfl ?_
      refine JL.nil ?_
      refine thenQ.n ⟨[], _, rfl, rfl, rfl, rfl, rfl, Reown.tkN 3 rfl, trivial, trivial, ?_⟩
      refine JX.conv (S' := [10, 9, 8, 7, 6, 5, 4, 3, 2, 1, 0]) rfl (by (try simp only [lvM]); rfl) (by (try simp only [vlF, bxF, tkM, lvM, Flt.val, Flt.bx, List.append_assoc, List.take_succ_cons, List.take_zero, List.append_eq, id_eq, stepsO, List.map_cons, List.map_nil, valO, nthO, curO, mrg, List.reverse_cons, List.reverse_nil, List.nil_append, List.cons_append, List.append_nil, List.getElem?_cons_zero, List.getElem?_cons_succ, Option.map_some, Option.getD_some, List.set_cons_zero, List.set_cons_succ, AV.cellsOf, splice_zero, splice_succ, Nat.zero_add, Nat.reduceAdd]); rfl) ?_
      refine JX.fin (by kernel_rfl) (by kernel_rfl) fun bs_ => ?_
      refine QX.conv (by (try simp only [vlF, bxF, tkM, lvM, Flt.val, Flt.bx, List.append_assoc, List.take_succ_cons, List.take_zero, List.append_eq, id_eq, stepsO, List.map_cons, List.map_nil, valO, nthO, curO, mrg, List.reverse_cons, List.reverse_nil, List.nil_append, List.cons_append, List.append_nil, List.getElem?_cons_zero, List.getElem?_cons_succ, Option.map_some, Option.getD_some, List.set_cons_zero, List.set_cons_succ, AV.cellsOf, splice_zero, splice_succ, Nat.zero_add, Nat.reduceAdd]); rfl) ?_
      refine blkQ.n ?_
      refine blkQ.n ?_
      have ho : (EX.mk 4 b t is).oct1 = UInt8.ofNat (4 : Int).toNat :: UInt8.ofNat t.length :: t := by simp [EX.oct1, EX.op, EX.text]
      have hL : bytesAV (l ++ (EX.mk 4 b t is).oct1) = bytesAV l ++ [.c (.int .u8 (((4 : Int).toNat : Nat) : Int))] :: [.c (.int .u8 ((t.length : Nat) : Int))] :: bytesAV t := by rw [ho]; rw [bytesAV_append, bytesAV_cons (by decide), bytesAV_cons (by omega)]; rfl
      exact ⟨rfl, (v50, l ++ (EX.mk 4 b t is).oct1), [_], by show _ = octL _; rw [List.map_append, octL_append, ← hpl]; show _ = l ++ octL [x.1.2]; rw [hxe]; simp [octL], by show List.Perm [_, _, Own.arr _ eU8 _] ([_, Own.arr _ eU8 (bytesAV (l ++ (EX.mk 4 b t is).oct1))] ++ [_]); rw [hL]; exact (List.perm_append_comm (l₁ := [_]))⟩
    · skip
      have o4 : o ≠ 4 := by simpa using c2
      refine J.seq ?_
      refine J.region_lit ?_
      refine JL.q rfl rfl rfl (QW.eql (.tmp rfl) .const) ?_
      refine JL.q rfl rfl rfl (QW.assign (.tmp rfl)) ?_
      refine JL.nil ?_
      refine thenQ.n ?_
      refine J.cond (.tmp rfl) (fun c3 => ?_) (fun c3 => ?_)
      · skip
        obtain rfl : o = 8 := by simpa using c3
        refine J.skip ?_
        refine thenQ.n ?_
        refine J.cond (.tmp rfl) (fun c4 => ?_) (fun c4 => absurd c4 (by simp))
        refine J.regionX mixed ?_
        refine JX.o 0 1 [] rfl rfl rfl rfl rfl rfl rfl rfl rfl (fun ow_ ho_ => (.q rfl (QW.load_box1 1 ty40 (.tmp rfl) ho_ rfl))) ?_
        refine JX.f 1 [] rfl rfl rfl rfl rfl rfl rfl rfl (fun ow_ => (.q rfl (QW.field_ptr fo32_2 (.tmp rfl) rfl))) ?_
        refine JX.o 2 0 [42] rfl rfl rfl rfl rfl rfl rfl rfl rfl (fun ow_ ho_ => (.q rfl (QW.load_box1 0 ty9 (.tmp rfl) ho_ rfl))) ?_
        refine JX.f 3 [43] rfl rfl rfl rfl rfl rfl rfl rfl (fun ow_ => (.q rfl (QW.len_s st9 (.tmp rfl)))) ?_
        refine JX.f 4 [44] rfl rfl rfl rfl rfl rfl rfl rfl (fun ow_ => (.q rfl (QW.conv_int us3 iu5 (.tmp rfl) (c := ((t.length : Nat) : Int)) (wu8 (by omega))))) ?_
        refine JX.f 5 [45] rfl rfl rfl rfl rfl rfl rfl rfl (fun ow_ => (.q rfl (QW.buildSlice (idx := [0]) (xs := [[.c (.int .u8 ((t.length : Nat) : Int))]]) sl40 el5 z5 rfl (.cons (.tmp rfl) .nil) rfl rfl rfl rfl rfl rfl rfl rfl rfl))) ?_
        refine JX.f 7 [] rfl rfl rfl rfl rfl rfl rfl rfl (fun ow_ => (.q rfl (QW.field_ptr fo32_2 (.tmp rfl) rfl))) ?_
        refine JX.o 8 0 [48] rfl rfl rfl rfl rfl rfl rfl rfl rfl (fun ow_ ho_ => (.q rfl (QW.load_box1 0 ty9 (.tmp rfl) ho_ rfl))) ?_
        refine JX.one 6 [false, false, true, true, true, true, true, true] rfl (by kernel_rfl) (by kernel_rfl) rfl rfl (by kernel_rfl) rfl fun bs6_ pe_ ex_ => ?_
        refine JL.conv (by (try simp only [vlF, bxF, tkM, lvM, Flt.val, Flt.bx, List.append_assoc, List.take_succ_cons, List.take_zero, List.append_eq, id_eq, stepsO, List.map_cons, List.map_nil, valO, nthO, curO, mrg, List.reverse_cons, List.reverse_nil, List.nil_append, List.cons_append, List.append_nil, List.getElem?_cons_zero, List.getElem?_cons_succ, Option.map_some, Option.getD_some, List.set_cons_zero, List.set_cons_succ, AV.cellsOf, splice_zero, splice_succ, Nat.zero_add, Nat.reduceAdd]); rfl) ?_
        refine JL.append 2 sl40 el5 rfl (.tmp rfl) rfl (srcA_sl sl40 (.tmp rfl)) (by simp only [List.length_append, List.length_cons, List.length_nil, bytesAV_length, List.length_take, be8_length] <;> (show _ * 1 ≤ _) <;> unfold reach <;> omega) rfl fun v47 => ?_
        refine JL.nil ?_
        refine thenQ.n ⟨[_], _, rfl, rfl, rfl, rfl, rfl, Reown.tkN 3 rfl, ⟨rfl, rfl⟩, ⟨rfl, ⟨trivial, trivial⟩⟩, ?_⟩
        refine JX.conv (S' := [6, 5, 4, 3, 2, 1, 0]) rfl (by (try simp only [lvM]); rfl) (by (try simp only [vlF, bxF, tkM, lvM, Flt.val, Flt.bx, List.append_assoc, List.take_succ_cons, List.take_zero, List.append_eq, id_eq, stepsO, List.map_cons, List.map_nil, valO, nthO, curO, mrg, List.reverse_cons, List.reverse_nil, List.nil_append, List.cons_append, List.append_nil, List.getElem?_cons_zero, List.getElem?_cons_succ, Option.map_some, Option.getD_some, List.set_cons_zero, List.set_cons_succ, AV.cellsOf, splice_zero, splice_succ, Nat.zero_add, Nat.reduceAdd]); rfl) ?_
        refine JX.one 9 [true, true] rfl (by kernel_rfl) (by kernel_rfl) rfl rfl (by kernel_rfl) rfl fun bs9_ pe_ ex_ => ?_
        refine JL.conv (by (try simp only [vlF, bxF, tkM, lvM, Flt.val, Flt.bx, List.append_assoc, List.take_succ_cons, List.take_zero, List.append_eq, id_eq, stepsO, List.map_cons, List.map_nil, valO, nthO, curO, mrg, List.reverse_cons, List.reverse_nil, List.nil_append, List.cons_append, List.append_nil, List.getElem?_cons_zero, List.getElem?_cons_succ, Option.map_some, Option.getD_some, List.set_cons_zero, List.set_cons_succ, AV.cellsOf, splice_zero, splice_succ, Nat.zero_add, Nat.reduceAdd]); rfl) ?_
        refine JL.append 2 sl40 el5 rfl (.tmp rfl) rfl (srcA_str st9 (.tmp rfl)) (by simp only [List.length_append, List.length_cons, List.length_nil, bytesAV_length, List.length_take, be8_length] <;> (show _ * 1 ≤ _) <;> unfold reach <;> omega) rfl fun v50 => ?_
        refine JL.nil ?_
        refine thenQ.n ⟨[_], _, rfl, rfl, rfl, rfl, rfl, Reown.tkN 3 rfl, ⟨rfl, rfl⟩, trivial, ?_⟩
        refine JX.conv (S' := [9, 8, 7, 6, 5, 4, 3, 2, 1, 0]) rfl (by (try simp only [lvM]); rfl) (by (try simp only [vlF, bxF, tkM, lvM, Flt.val, Flt.bx, List.append_assoc, List.take_succ_cons, List.take_zero, List.append_eq, id_eq, stepsO, List.map_cons, List.map_nil, valO, nthO, curO, mrg, List.reverse_cons, List.reverse_nil, List.nil_append, List.cons_append, List.append_nil, List.getElem?_cons_zero, List.getElem?_cons_succ, Option.map_some, Option.getD_some, List.set_cons_zero, List.set_cons_succ, AV.cellsOf, splice_zero, splice_succ, Nat.zero_add, Nat.reduceAdd]); rfl) ?_
        refine JX.one 10 [] rfl (by kernel_rfl) (by kernel_rfl) rfl rfl (by kernel_rfl) rfl fun bs10_ pe_ ex_ => ?_
        refine JL.conv (by (try simp only [vlF, bxF, tkM, lvM, Flt.val, Flt.bx, List.append_assoc, List.take_succ_cons, List.take_zero, List.append_eq, id_eq, stepsO, List.map_cons, List.map_nil, valO, nthO, curO, mrg, List.reverse_cons, List.reverse_nil, List.nil_append, List.cons_append, List.append_nil, List.getElem?_cons_zero, List.getElem?_cons_succ, Option.map_some, Option.getD_some, List.set_cons_zero, List.set_cons_succ, AV.cellsOf, splice_zero, splice_succ, Nat.zero_add, Nat.reduceAdd]); rfl) ?_
        refine JL.isSlice 2 rfl fun hs2 => ?_
        refine JL.store_box 1 ty40 (.tmp rfl) rfl (.tmp rfl) (by first | rfl | assumption) rfl rfl rfl rfl ?_
        refine JL.nil ?_
        refine thenQ.n ⟨[], _, rfl, rfl, rfl, rfl, rfl, Reown.tkN 3 rfl, trivial, trivial, ?_⟩
        refine JX.conv (S' := [10, 9, 8, 7, 6, 5, 4, 3, 2, 1, 0]) rfl (by (try simp only [lvM]); rfl) (by (try simp only [vlF, bxF, tkM, lvM, Flt.val, Flt.bx, List.append_assoc, List.take_succ_cons, List.take_zero, List.append_eq, id_eq, stepsO, List.map_cons, List.map_nil, valO, nthO, curO, mrg, List.reverse_cons, List.reverse_nil, List.nil_append, List.cons_append, List.append_nil, List.getElem?_cons_zero, List.getElem?_cons_succ, Option.map_some, Option.getD_some, List.set_cons_zero, List.set_cons_succ, AV.cellsOf, splice_zero, splice_succ, Nat.zero_add, Nat.reduceAdd]); rfl) ?_
        refine JX.fin (by kernel_rfl) (by kernel_rfl) fun bs_ => ?_
        refine QX.conv (by (try simp only [vlF, bxF, tkM, lvM, Flt.val, Flt.bx, List.append_assoc, List.take_succ_cons, List.take_zero, List.append_eq, id_eq, stepsO, List.map_cons, List.map_nil, valO, nthO, curO, mrg, List.reverse_cons, List.reverse_nil, List.nil_append, List.cons_append, List.append_nil, List.getElem?_cons_zero, List.getElem?_cons_succ, Option.map_some, Option.getD_some, List.set_cons_zero, List.set_cons_succ, AV.cellsOf, splice_zero, splice_succ, Nat.zero_add, Nat.reduceAdd]); rfl) ?_
        refine blkQ.n ?_
        refine blkQ.n ?_
        have ho : (EX.mk 8 b t is).oct1 = UInt8.ofNat (8 : Int).toNat :: UInt8.ofNat t.length :: t := by simp [EX.oct1, EX.op, EX.text]
        have hL : bytesAV (l ++ (EX.mk 8 b t is).oct1) = bytesAV l ++ [.c (.int .u8 (((8 : Int).toNat : Nat) : Int))] :: [.c (.int .u8 ((t.length : Nat) : Int))] :: bytesAV t := by rw [ho]; rw [bytesAV_append, bytesAV_cons (by decide), bytesAV_cons (by omega)]; rfl
        exact ⟨rfl, (v50, l ++ (EX.mk 8 b t is).oct1), [_], by show _ = octL _; rw [List.map_append, octL_append, ← hpl]; show _ = l ++ octL [x.1.2]; rw [hxe]; simp [octL], by show List.Perm [_, _, Own.arr _ eU8 _] ([_, Own.arr _ eU8 (bytesAV (l ++ (EX.mk 8 b t is).oct1))] ++ [_]); rw [hL]; exact (List.perm_append_comm (l₁ := [_]))⟩
      · skip
        have o8 : o ≠ 8 := by simpa using c3
        refine J.region_lit ?_
        refine JL.q rfl rfl rfl (QW.eql (.tmp rfl) .const) ?_
        refine JL.q rfl rfl rfl (QW.assign (.tmp rfl)) ?_
        refine JL.nil ?_
        refine thenQ.n ?_
        refine J.cond (.tmp rfl) (fun c4 => ?_) (fun c4 => ?_)
        · skip
          obtain rfl : o = 25 := by simpa using c4
          refine J.regionX mixed ?_
          refine JX.o 0 1 [] rfl rfl rfl rfl rfl rfl rfl rfl rfl (fun ow_ ho_ => (.q rfl (QW.load_box1 1 ty40 (.tmp rfl) ho_ rfl))) ?_
          refine JX.f 1 [] rfl rfl rfl rfl rfl rfl rfl rfl (fun ow_ => (.q rfl (QW.field_ptr fo32_2 (.tmp rfl) rfl))) ?_
          refine JX.o 2 0 [42] rfl rfl rfl rfl rfl rfl rfl rfl rfl (fun ow_ ho_ => (.q rfl (QW.load_box1 0 ty9 (.tmp rfl) ho_ rfl))) ?_
          refine JX.f 3 [43] rfl rfl rfl rfl rfl rfl rfl rfl (fun ow_ => (.q rfl (QW.len_s st9 (.tmp rfl)))) ?_
          refine JX.f 4 [44] rfl rfl rfl rfl rfl rfl rfl rfl (fun ow_ => (.q rfl (QW.conv_int us3 iu5 (.tmp rfl) (c := ((t.length : Nat) : Int)) (wu8 (by omega))))) ?_
          refine JX.f 5 [45] rfl rfl rfl rfl rfl rfl rfl rfl (fun ow_ => (.q rfl (QW.buildSlice (idx := [0]) (xs := [[.c (.int .u8 ((t.length : Nat) : Int))]]) sl40 el5 z5 rfl (.cons (.tmp rfl) .nil) rfl rfl rfl rfl rfl rfl rfl rfl rfl))) ?_
          refine JX.f 7 [] rfl rfl rfl rfl rfl rfl rfl rfl (fun ow_ => (.q rfl (QW.field_ptr fo32_2 (.tmp rfl) rfl))) ?_
          refine JX.o 8 0 [48] rfl rfl rfl rfl rfl rfl rfl rfl rfl (fun ow_ ho_ => (.q rfl (QW.load_box1 0 ty9 (.tmp rfl) ho_ rfl))) ?_
          refine JX.one 6 [false, false, true, true, true, true, true, true] rfl (by kernel_rfl) (by kernel_rfl) rfl rfl (by kernel_rfl) rfl fun bs6_ pe_ ex_ => ?_
          refine JL.conv (by (try simp only [vlF, bxF, tkM, lvM, Flt.val, Flt.bx, List.append_assoc, List.take_succ_cons, List.take_zero, List.append_eq, id_eq, stepsO, List.map_cons, List.map_nil, valO, nthO, curO, mrg, List.reverse_cons, List.reverse_nil, List.nil_append, List.cons_append, List.append_nil, List.getElem?_cons_zero, List.getElem?_cons_succ, Option.map_some, Option.getD_some, List.set_cons_zero, List.set_cons_succ, AV.cellsOf, splice_zero, splice_succ, Nat.zero_add, Nat.reduceAdd]); rfl) ?_
          refine JL.append 2 sl40 el5 rfl (.tmp rfl) rfl (srcA_sl sl40 (.tmp rfl)) (by simp only [List.length_append, List.length_cons, List.length_nil, bytesAV_length, List.length_take, be8_length] <;> (show _ * 1 ≤ _) <;> unfold reach <;> omega) rfl fun v47 => ?_
          refine JL.nil ?_
          refine thenQ.n ⟨[_], _, rfl, rfl, rfl, rfl, rfl, Reown.tkN 3 rfl, ⟨rfl, rfl⟩, ⟨rfl, ⟨trivial, trivial⟩⟩, ?_⟩
          refine JX.conv (S' := [6, 5, 4, 3, 2, 1, 0]) rfl (by (try simp only [lvM]); rfl) (by (try simp only [vlF, bxF, tkM, lvM, Flt.val, Flt.bx, List.append_assoc, List.take_succ_cons, List.take_zero, List.append_eq, id_eq, stepsO, List.map_cons, List.map_nil, valO, nthO, curO, mrg, List.reverse_cons, List.reverse_nil, List.nil_append, List.cons_append, List.append_nil, List.getElem?_cons_zero, List.getElem?_cons_succ, Option.map_some, Option.getD_some, List.set_cons_zero, List.set_cons_succ, AV.cellsOf, splice_zero, splice_succ, Nat.zero_add, Nat.reduceAdd]); rfl) ?_
          refine JX.one 9 [true, true] rfl (by kernel_rfl) (by kernel_rfl) rfl rfl (by kernel_rfl) rfl fun bs9_ pe_ ex_ => ?_
          refine JL.conv (by (try simp only [vlF, bxF, tkM, lvM, Flt.val, Flt.bx, List.append_assoc, List.take_succ_cons, List.take_zero, List.append_eq, id_eq, stepsO, List.map_cons, List.map_nil, valO, nthO, curO, mrg, List.reverse_cons, List.reverse_nil, List.nil_append, List.cons_append, List.append_nil, List.getElem?_cons_zero, List.getElem?_cons_succ, Option.map_some, Option.getD_some, List.set_cons_zero, List.set_cons_succ, AV.cellsOf, splice_zero, splice_succ, Nat.zero_add, Nat.reduceAdd]); rfl) ?_
          refine JL.append 2 sl40 el5 rfl (.tmp rfl) rfl (srcA_str st9 (.tmp rfl)) (by simp only [List.length_append, List.length_cons, List.length_nil, bytesAV_length, List.length_take, be8_length] <;> (show _ * 1 ≤ _) <;> unfold reach <;> omega) rfl fun v50 => ?_
          refine JL.nil ?_
          refine thenQ.n ⟨[_], _, rfl, rfl, rfl, rfl, rfl, Reown.tkN 3 rfl, ⟨rfl, rfl⟩, trivial, ?_⟩
          refine JX.conv (S' := [9, 8, 7, 6, 5, 4, 3, 2, 1, 0]) rfl (by (try simp only [lvM]); rfl) (by (try simp only [vlF, bxF, tkM, lvM, Flt.val, Flt.bx, List.append_assoc, List.take_succ_cons, List.take_zero, List.append_eq, id_eq, stepsO, List.map_cons, List.map_nil, valO, nthO, curO, mrg, List.reverse_cons, List.reverse_nil, List.nil_append, List.cons_append, List.append_nil, List.getElem?_cons_zero, List.getElem?_cons_succ, Option.map_some, Option.getD_some, List.set_cons_zero, List.set_cons_succ, AV.cellsOf, splice_zero, splice_succ, Nat.zero_add, Nat.reduceAdd]); rfl) ?_
          refine JX.one 10 [] rfl (by kernel_rfl) (by kernel_rfl) rfl rfl (by kernel_rfl) rfl fun bs10_ pe_ ex_ => ?_
          refine JL.conv (by (try simp only [vlF, bxF, tkM, lvM, Flt.val, Flt.bx, List.append_assoc, List.take_succ_cons, List.take_zero, List.append_eq, id_eq, stepsO, List.map_cons, List.map_nil, valO, nthO, curO, mrg, List.reverse_cons, List.reverse_nil, List.nil_append, List.cons_append, List.append_nil, List.getElem?_cons_zero, List.getElem?_cons_succ, Option.map_some, Option.getD_some, List.set_cons_zero, List.set_cons_succ, AV.cellsOf, splice_zero, splice_succ, Nat.zero_add, Nat.reduceAdd]); rfl) ?_
          refine JL.isSlice 2 rfl fun hs2 => ?_
          refine JL.store_box 1 ty40 (.tmp rfl) rfl (.tmp rfl) (by first | rfl | assumption) rfl rfl rfl rfl ?_
          refine JL.nil ?_
          refine thenQ.n ⟨[], _, rfl, rfl, rfl, rfl, rfl, Reown.tkN 3 rfl, trivial, trivial, ?_⟩
          refine JX.conv (S' := [10, 9, 8, 7, 6, 5, 4, 3, 2, 1, 0]) rfl (by (try simp only [lvM]); rfl) (by (try simp only [vlF, bxF, tkM, lvM, Flt.val, Flt.bx, List.append_assoc, List.take_succ_cons, List.take_zero, List.append_eq, id_eq, stepsO, List.map_cons, List.map_nil, valO, nthO, curO, mrg, List.reverse_cons, List.reverse_nil, List.nil_append, List.cons_append, List.append_nil, List.getElem?_cons_zero, List.getElem?_cons_succ, Option.map_some, Option.getD_some, List.set_cons_zero, List.set_cons_succ, AV.cellsOf, splice_zero, splice_succ, Nat.zero_add, Nat.reduceAdd]); rfl) ?_
          refine JX.fin (by kernel_rfl) (by kernel_rfl) fun bs_ => ?_
          refine QX.conv (by (try simp only [vlF, bxF, tkM, lvM, Flt.val, Flt.bx, List.append_assoc, List.take_succ_cons, List.take_zero, List.append_eq, id_eq, stepsO, List.map_cons, List.map_nil, valO, nthO, curO, mrg, List.reverse_cons, List.reverse_nil, List.nil_append, List.cons_append, List.append_nil, List.getElem?_cons_zero, List.getElem?_cons_succ, Option.map_some, Option.getD_some, List.set_cons_zero, List.set_cons_succ, AV.cellsOf, splice_zero, splice_succ, Nat.zero_add, Nat.reduceAdd]); rfl) ?_
          refine blkQ.n ?_
          refine blkQ.n ?_
          have ho : (EX.mk 25 b t is).oct1 = UInt8.ofNat (25 : Int).toNat :: UInt8.ofNat t.length :: t := by simp [EX.oct1, EX.op, EX.text]
          have hL : bytesAV (l ++ (EX.mk 25 b t is).oct1) = bytesAV l ++ [.c (.int .u8 (((25 : Int).toNat : Nat) : Int))] :: [.c (.int .u8 ((t.length : Nat) : Int))] :: bytesAV t := by rw [ho]; rw [bytesAV_append, bytesAV_cons (by decide), bytesAV_cons (by omega)]; rfl
          exact ⟨rfl, (v50, l ++ (EX.mk 25 b t is).oct1), [_], by show _ = octL _; rw [List.map_append, octL_append, ← hpl]; show _ = l ++ octL [x.1.2]; rw [hxe]; simp [octL], by show List.Perm [_, _, Own.arr _ eU8 _] ([_, Own.arr _ eU8 (bytesAV (l ++ (EX.mk 25 b t is).oct1))] ++ [_]); rw [hL]; exact (List.perm_append_comm (l₁ := [_]))⟩
        · skip
          have o25 : o ≠ 25 := by simpa using c4
          refine J.seq ?_
          refine J.region_lit ?_
          refine JL.q rfl rfl rfl (QW.eql (.tmp rfl) .const) ?_
          refine JL.q rfl rfl rfl (QW.assign (.tmp rfl)) ?_
          refine JL.nil ?_
          refine thenQ.n ?_
          refine J.cond (.tmp rfl) (fun c5 => ?_) (fun c5 => ?_)
          · skip
            obtain rfl : o = 23 := by simpa using c5
            refine J.region_lit ?_
            refine JL.q rfl rfl rfl (QW.load_box1 1 ty40 (.tmp rfl) rfl rfl) ?_
            refine JL.q rfl rfl rfl (QW.field_ptr fo32_3 (.tmp rfl) rfl) ?_
            refine JL.q rfl rfl rfl (QW.load_box1 0 ty30 (.tmp rfl) rfl rfl) ?_
            refine JL.q rfl rfl rfl (by first | exact QW.len_slE sl30 (.tmp rfl) (EX.css_length _ _) | exact QW.len_sl sl30 (.tmp rfl) | exact QW.len_nil sl30 (.tmp rfl)) ?_
            refine JL.q rfl rfl rfl (QW.conv_int us3 iu5 (.tmp rfl) (c := ((is.length : Nat) : Int)) (wu8 (by omega))) ?_
            refine JL.q rfl rfl rfl (QW.buildSlice (idx := [0]) (xs := [[.c (.int .u8 ((is.length : Nat) : Int))]]) sl40 el5 z5 rfl (.cons (.tmp rfl) .nil) rfl rfl rfl rfl rfl rfl rfl rfl rfl) ?_
            refine JL.append 2 sl40 el5 rfl (.tmp rfl) rfl (srcA_sl sl40 (.tmp rfl)) (by simp only [List.length_append, List.length_cons, List.length_nil, bytesAV_length, List.length_take, be8_length] <;> (show _ * 1 ≤ _) <;> unfold reach <;> omega) rfl fun v59 => ?_
            refine JL.isSlice 2 rfl fun hs2 => ?_
            refine JL.store_box 1 ty40 (.tmp rfl) rfl (.tmp rfl) (by first | rfl | assumption) rfl rfl rfl rfl ?_
            refine JL.nil ?_
            refine blkQ.n ?_
            refine blkQ.n ?_
            have ho : (EX.mk 23 b t is).oct1 = [UInt8.ofNat (23 : Int).toNat, UInt8.ofNat is.length] := by simp [EX.oct1, EX.op, EX.args]
            have hL : bytesAV (l ++ (EX.mk 23 b t is).oct1) = bytesAV l ++ [[.c (.int .u8 (((23 : Int).toNat : Nat) : Int))]] ++ [[.c (.int .u8 ((is.length : Nat) : Int))]] := by rw [ho]; rw [bytesAV_append, bytesAV_cons (by decide), bytesAV_one (by omega)]; simp only [List.append_assoc]
            exact ⟨rfl, (v59, l ++ (EX.mk 23 b t is).oct1), [_], by show _ = octL _; rw [List.map_append, octL_append, ← hpl]; show _ = l ++ octL [x.1.2]; rw [hxe]; simp [octL], by show List.Perm [_, _, Own.arr _ eU8 _] ([_, Own.arr _ eU8 (bytesAV (l ++ (EX.mk 23 b t is).oct1))] ++ [_]); rw [hL]; exact (List.perm_append_comm (l₁ := [_]))⟩
          · skip
            have o23 : o ≠ 23 := by simpa using c5
            refine J.skip ?_
            refine blkQ.n ?_
            refine blkQ.n ?_
            have ho : (EX.mk o b t is).oct1 = [UInt8.ofNat o.toNat] := by simp [EX.oct1, EX.op, o3, o4, o8, o25, o23]
            have hL : bytesAV (l ++ (EX.mk o b t is).oct1) = bytesAV l ++ [[.c (.int .u8 ((o.toNat : Nat) : Int))]] := by rw [ho]; exact bytesAV_snoc (by omega) _
            exact ⟨rfl, (v20, l ++ (EX.mk o b t is).oct1), [_], by show _ = octL _; rw [List.map_append, octL_append, ← hpl]; show _ = l ++ octL [x.1.2]; rw [hxe]; simp [octL], by show List.Perm [_, _, Own.arr _ eU8 _] ([_, Own.arr _ eU8 (bytesAV (l ++ (EX.mk o b t is).oct1))] ++ [_]); rw [hL]; exact (List.perm_append_comm (l₁ := [_]))⟩
end Go.Proofs.Ytlppnhkjonmniaa.J

/- Encode: its octets are the page's. -/
namespace Go.Proofs.Ytlppnhkjonmniaa.J
open Go Go.RowKit
set_option linter.unusedVariables false
set_option linter.unusedSimpArgs false
set_option maxRecDepth 10000
set_option maxHeartbeats 4000000
theorem encSeq {w0 : World} {A0 : Foot} {fr : Bool} {c : Nat} {e : EX} {b1 : Nat} (hm : ∀ b, A0 true b → A0 false b) (hA : ∀ fr b, A0 fr b → Sf c w0 b) (hok : OkW c w0)
    (hr : Rd w0 A0 (.pointer (some ⟨b1, 0, none⟩)) (.ref true (e.cs fr))) (hw : e.wf) (hfi : e.Fine) :
    SeqK Fence.wide 1 Try.prog 28 #[.pointer (some ⟨b1, 0, none⟩)] (fun x : EArg w0 A0 fr => #[x.1.1]) (Kp c) (fun xs => xs.map (·.1.2) = e.parts) e.sz w0 := by
  intro l Jv W hW hJ hY hJ0
  have hgW : w0.grownBy W none := ⟨hW.os, hW.tape, hW.output, hW.size, fun k hk _ => hW.block k hk⟩
  have hkW := (Kp.grown hgW : Kp c w0 W) hok
  have hR0 : ∀ fr b, A0 fr b → Sf c W b ∧ W.heap[b]? = w0.heap[b]? := fun fr b hb => (hA fr b hb).keep hkW
  obtain ⟨b0, off0, cs, ty, fz, he, hAb, hb, hcs⟩ := hr.of_ref
  have hlen := EX.cs_length fr e
  have hget : ∀ k, k < 4 → ∃ u y, (e.cs fr)[k]? = some y ∧ cs[off0 + k]? = some u ∧ u.oneCell' = true ∧ Rd w0 A0 u y := fun k hk => by
    obtain ⟨y, hy⟩ : ∃ y, (e.cs fr)[k]? = some y := ⟨_, List.getElem?_eq_getElem (by omega)⟩
    obtain ⟨u, h1, h2, h3⟩ := hcs k y hy
    exact ⟨u, y, hy, h1, h2, h3⟩
  obtain ⟨u0, y0, q0, e0, n0, r0⟩ := hget 0 (by decide)
  obtain ⟨u1, y1, q1, e1, n1, r1⟩ := hget 1 (by decide)
  obtain ⟨u2, y2, q2, e2, n2, r2⟩ := hget 2 (by decide)
  obtain ⟨u3, y3, q3, e3, n3, r3⟩ := hget 3 (by decide)
  have hv0 : Rd w0 A0 (.agg #[u0, u1, u2, u3]) (.agg (e.cs fr)) := Rd.mk_agg (by rw [hlen]; rfl) fun k y hk => by
    match k with
    | 0 => rw [q0] at hk; cases hk; exact ⟨u0, rfl, n0, r0⟩
    | 1 => rw [q1] at hk; cases hk; exact ⟨u1, rfl, n1, r1⟩
    | 2 => rw [q2] at hk; cases hk; exact ⟨u2, rfl, n2, r2⟩
    | 3 => rw [q3] at hk; cases hk; exact ⟨u3, rfl, n3, r3⟩
    | k + 4 => rw [List.getElem?_eq_none (by omega)] at hk; cases hk
  have hbW : W.heap[b0]? = some (.cells cs ty fz) := (hR0 _ _ hAb).2.trans hb
  have hrW : Rd W A0 (.pointer (some ⟨b1, 0, none⟩)) (.ref true ([u0, u1, u2, u3].map AV.c)) := by
    rw [he]
    refine Rd.mk_ref hAb hbW fun k y hk => ?_
    match k with
    | 0 => cases hk; exact ⟨u0, e0, n0, .c _⟩
    | 1 => cases hk; exact ⟨u1, e1, n1, .c _⟩
    | 2 => cases hk; exact ⟨u2, e2, n2, .c _⟩
    | 3 => cases hk; exact ⟨u3, e3, n3, .c _⟩
    | k + 4 => cases hk
  have hHp : Hp W.heap.size (fps []) A0 [] W A0 := ⟨hm, fun _ _ h => h, fun _ _ h => .inl h, fun fr b hb => (hR0 fr b hb).1.1.lt, fun b hb => by simp [fps] at hb, by simp [fps], fun o ho => by cases ho⟩
  have hRd : RdL W A0 #[.func (.yield l) #[] #[], .pointer (some ⟨b1, 0, none⟩)] [.c (.func (.yield l) #[] #[]), .c (.pointer (some ⟨b1, 0, none⟩))] := ⟨rfl, fun i x hi => by
    match i with
    | 0 => cases hi; exact .c _
    | 1 => cases hi; exact .c _
    | i + 2 => cases hi⟩
  refine (callsIn_wide (n := 1)).2 ?_
  refine calls_raw (N := 6) Try.func28 rfl Try.ntmps28 ?_
  have hs0 := init_sat (rd := none) (N := 6) hHp hRd (by simp)
  have hs1 : SatA ⟨W, [], A0, none⟩ A0 ⟨6, initEnv 0 [.c (.func (.yield l) #[] #[]), .c (.pointer (some ⟨b1, 0, none⟩))], [], [(.pointer (some ⟨b1, 0, none⟩), .ref true ([u0, u1, u2, u3].map AV.c))], []⟩ _ W := ⟨hs0.size, hs0.defers, hs0.keep, hs0.hp, hs0.env, fun p hp => by obtain rfl := List.mem_singleton.1 hp; exact hrW⟩
  refine JLr.region_lit (P := Try.prog) (E := ⟨W, [], A0, none⟩) (JLr.q rfl rfl rfl (QW.load_ref ty32 (Ev.le (.tmp rfl) (.fact (List.mem_cons_self) (.refl _))) rfl rfl) (JLr.q rfl rfl rfl (QW.move (.tmp rfl)) (JLr.pre fun A' a' w' h' => ?_))) _ _ ⟨A0, hs1⟩
  have hg2 := grown_of_keep h' rfl
  have hk2 := (Kp.grown hg2 : Kp c W w') hkW.ok
  have hR' : ∀ fr b, A0 fr b → Sf c w' b ∧ w'.heap[b]? = w0.heap[b]? := fun fr b hb => by
    obtain ⟨g1, g2⟩ := hR0 fr b hb
    obtain ⟨g3, g4⟩ := g1.keep hk2
    exact ⟨g3, g4.trans g2⟩
  have hJg : ∀ s W W', Jv s W → W.grownBy W' none → Jv s W' := fun s A B hs hg => hJ s A B none hs hg (fun r e => by cases e)
  have hcall := each_n hm hJg hY e.sz e (.agg #[u0, u1, u2, u3]) [] w' (Nat.le_refl _) hv0 hw hfi hR' hk2.ok (hJg _ _ _ hJ0 hg2) (by simp)
  refine wp_call gofn29 (l := [.tmp 3, .tmp 4]) (R := fun e' W' => e' = .returned (.bool true) ∧ ∃ xs : List (EArg w0 A0 fr), xs.map (·.1.2) = e.parts ∧ Jv ([] ++ xs) W' ∧ Kp c w' W') ?_ ?_
  · have e3 : a'.eval (.tmp 3) = .agg #[u0, u1, u2, u3] := (h'.env 3 _ rfl).agg_c
    have e4 : a'.eval (.tmp 4) = .func (.yield l) #[] #[] := (h'.env 4 _ rfl).eq
    simp only [List.map_toArray, List.map_cons, List.map_nil, e3, e4]
    exact hcall
  · rintro e' W2 ⟨rfl, xs, hxs, hJ2, -⟩
    refine ⟨_, rfl, wpListIn_nil ?_⟩
    refine ⟨h'.defers, _, results_none rfl _ _ _, ⟨_, rfl⟩, xs, hxs, hJ2⟩
theorem EX.err_sz {e : EX} (h : e.err = 0) : e.sz ≤ 64 := by
  have h1 := EX.chk_sz e 1 0 h
  have h2 := (EX.chk_bounds e 1 0).2 (by omega)
  omega
def EncR (e : EX) : AV → List Own → Prop := fun x o => ∃ v, x = .tup [.c v, .c (.int .i64 e.err)] ∧ o = [.arr v eU8 (bytesAV (if e.err = 0 then e.enc else []))]
theorem enc_ok {fr : Bool} {e : EX} {ys : List AV} (hv : Xc fr e ys) (hw : e.wf) : AC Try.prog 16 [] [.agg ys] (RetR (EncR e)) := by
  subst hv
  refine AC.of_JM (N := 61) Try.func16 rfl Try.ntmps16 rfl fun w0 A0 a hlt hs => ?_
  have hnp : ∀ v own', ¬ RetR (EncR e) (.pan v) own' := fun v own' h => by obtain ⟨x, h, _⟩ := h; cases h
  refine wpIn_seq (wpIn_mono (J.region_lit (P := Try.prog) (Q := fun x s => x = .normal ∧ ∃ b1 en, s = ⟨61, (3, .c (.int .i64 0)) :: (2, .c (.slice none 0 0)) :: (1, .c (.pointer (some ⟨b1, 0, none⟩))) :: en, [.box b1 (e.cs fr)], [], []⟩)
    (JL.box_agg (.tmp rfl) rfl fun b1 => JL.q rfl rfl rfl (QW.assign .const) (JL.q rfl rfl rfl (QW.assign .const) (JL.nil ⟨rfl, b1, _, rfl⟩))) _ _ ⟨A0, hs⟩) ?_)
  rintro x a1 w1 ⟨s, ⟨rfl, b1, en, rfl⟩, hs1⟩
  simp only [Exit.then]
  refine wpIn_seq (wpIn_seq (wpIn_mono (J.region_lit (P := Try.prog) (Q := fun x s => x = .normal ∧ s = ⟨61, [(4, .c (.int .i64 e.err)), (3, .c (.int .i64 0)), (2, .c (.slice none 0 0)), (1, .c (.pointer (some ⟨b1, 0, none⟩)))], [.box b1 (e.cs fr)], [], []⟩)
    (JL.q rfl rfl rfl (QW.load_box 0 ty32 (.tmp rfl) rfl (take_at (EX.cs_length _ _) rfl) (EX.cs_length _ _)) (JL.q rfl rfl rfl (QW.call gofn25 (.cons (.tmp rfl) .nil) (echeck_ok Xc.self hw)) (JL.q rfl rfl rfl (QW.assign (.tmp rfl))
      (JL.weak (Wk.re (.cons rfl (.refl _) (.cons rfl (.refl _) (.cons rfl (.refl _) (.cons rfl (.refl _) .nil)))) (Reown.refl _) (fun _ h => h)) (JL.nil ⟨rfl, rfl⟩))))) _ _ hs1) ?_))
  rintro x a2 w2 ⟨s, ⟨rfl, rfl⟩, hs2⟩
  simp only [Exit.then]
  refine wpIn_seq (wpIn_mono (J.region_lit (P := Try.prog) (Q := fun x s => x = .normal ∧ s = ⟨61, [(11, .c (.bool (e.err != 0))), (4, .c (.int .i64 e.err)), (3, .c (.int .i64 0)), (2, .c (.slice none 0 0)), (1, .c (.pointer (some ⟨b1, 0, none⟩)))], [.box b1 (e.cs fr)], [], []⟩)
    (JL.q rfl rfl rfl (QW.move (.tmp rfl)) (JL.q rfl rfl rfl (QW.neq (.tmp rfl) .const)
      (JL.weak (Wk.re (.cons rfl (.refl _) (.cons rfl (.refl _) (.cons rfl (.refl _) (.cons rfl (.refl _) (.cons rfl (.refl _) .nil))))) (Reown.refl _) (fun _ h => h)) (JL.nil ⟨rfl, rfl⟩)))) _ _ hs2) ?_)
  rintro x a3 w3 ⟨s, ⟨rfl, rfl⟩, A3, hs3⟩
  simp only [Exit.then]
  refine wpIn_cond_split (hs3.env 11 _ rfl).eq (fun hne => ?_) fun hz => wpIn_skip ?_
  · -- it may not be
    have he : e.err ≠ 0 := by simpa using hne
    refine wpIn_mono ((?_ : J Try.prog ⟨w0, fps [], A0, none⟩ _ _ (fun x s => x = .ret ∧ retQ Try.prog Try.f16 (RetR (EncR e)) .ret s)) _ _ ⟨A3, hs3⟩) ?_
    · refine J.seq ?_
      refine J.region_lit ?_
      refine JL.q rfl rfl rfl (QW.move (.tmp rfl)) ?_
      refine JL.q rfl rfl rfl (QW.assign .const) ?_
      refine JL.q rfl rfl rfl (QW.assign (.tmp rfl)) ?_
      refine JL.nil ?_
      refine thenQ.n ?_
      refine J.reown (Reown.nilArr eU8 _) ?_
      refine J.ret ?_
      exact ⟨rfl, _, [_], [_], RetEv.two rfl (REv.tmp rfl (.refl _)) (REv.tmp rfl (.refl _)), rfl, .refl _, _, rfl, .slice none 0 0, rfl, by rw [if_neg he]; rfl⟩
    · rintro x a4 w4 ⟨s, ⟨rfl, hq⟩, hA⟩
      exact postM_of_retQ hnp ⟨s, hq, hA⟩
  · have he : e.err = 0 := by simpa using hz
    have hfi := EX.fine_of he
    have hsz := EX.err_sz he
    simp only [Exit.then]
    refine wpIn_seq (wpIn_mono (J.region_lit (P := Try.prog) (Q := fun x s => x = .normal ∧ ∃ b5, s = ⟨61, [(5, .c (.pointer (some ⟨b5, 0, none⟩))), (1, .c (.pointer (some ⟨b1, 0, none⟩)))], [.box b5 [.c (.slice none 0 0)], .box b1 (e.cs fr)], [], []⟩)
      (JL.alloc z40 rfl rfl fun b5 => (JL.weak (Wk.re (.cons rfl (.refl _) (.cons rfl (.refl _) .nil)) (Reown.refl _) (fun _ h => h)) (JL.nil ⟨rfl, b5, rfl⟩))) _ _ ⟨A3, hs3⟩) ?_)
    rintro x a4 w4 ⟨s, ⟨rfl, b5, rfl⟩, A4, hs4⟩
    simp only [Exit.then]
    obtain ⟨A5, hs5⟩ := hs4.close (i := 1) rfl Clos.box (fun b hb => by simp [fps] at hb)
    refine wpIn_seq (wpIn_seq (wpIn_mono (J.region_lit (P := Try.prog) (E := ⟨w0, fps [], A0, none⟩) (Q := fun x s => x = .normal ∧ s = ⟨61, [(13, .c (.func (.func 28) #[] #[.pointer (some ⟨b1, 0, none⟩)])), (5, .c (.pointer (some ⟨b5, 0, none⟩)))], encO b5 (.slice none 0 0, []), [(.pointer (some ⟨b1, 0, none⟩), .ref true (e.cs fr))], []⟩)
      (JL.q rfl rfl rfl (QW.mkFunc .nil (.cons (.tmp rfl) .nil)) (JL.weak (Wk.re (.cons rfl (.refl _) (.cons rfl (.refl _) .nil)) (Reown.nilArrE eU8 _) (fun _ h => h)) (JL.nil ⟨rfl, rfl⟩))) _ _ ⟨A5, hs5⟩) ?_))
    rintro x a6 w6 ⟨s, ⟨rfl, rfl⟩, A6, hs6⟩
    simp only [Exit.then]
    have hclo : a6.eval (.tmp 13) = .func (.func 28) #[] #[.pointer (some ⟨b1, 0, none⟩)] := (hs6.env 13 _ rfl).eq
    have hs7 := hs6.env' (env' := [(5, .c (.pointer (some ⟨b5, 0, none⟩)))]) (.cons rfl (.refl _) .nil)
    let A7 : Foot := fun fr b => A6 fr b ∧ isC w6 b
    have hwr : ∀ {W : World} {A : Foot} {s : Value × List UInt8}, (∀ o ∈ encO b5 s, o.ok W A) → ∀ k, wr b5 W k ↔ k ∈ fps (encO b5 s) := fun h k => wr_own (h _ (.head _)) k
    have hokE : ∀ {E : Ent} {W : World} {A : Foot} {a : Act} {n env F D} {s : Value × List UInt8}, SatA E A ⟨n, env, encO b5 s, F, D⟩ a W → OkW b5 W := fun h => ⟨h.ownC _ (by simp [encO, fps, Own.fp]), fun k hk => (h.hp.fp k ((hwr h.hp.own k).1 hk)).1⟩
    have hb5 : b5 < w6.heap.size := (hokE hs7).cel.lt
    have hm7 : ∀ b, A7 true b → A7 false b := fun b hb => ⟨hs7.hp.mono b hb.1, hb.2⟩
    have hS7 : ∀ fr b, A7 fr b → Sf b5 w6 b := fun fr b hb => ⟨hb.2, fun hw => (hs7.hp.fp b ((hwr hs7.hp.own b).1 hw)).2.2 fr hb.1⟩
    have hr7 : Rd w6 A7 (.pointer (some ⟨b1, 0, none⟩)) (.ref true (e.cs fr)) := (hs7.facts _ (.head _)).foot fun fr b h1 h2 => ⟨h1, h2⟩
    refine wpIn_block ?_
    refine range_wp (E := ⟨w0, fps [], A0, none⟩) (ow := encO b5) (p := encP (w0 := w6) (A0 := A7) (fr := fr)) (σ0 := (.slice none 0 0, [])) rfl rfl hs7 rfl hclo gofn28 rfl rfl (val := fun x => x.1.1) (av := fun x => .agg (x.1.2.cs fr))
      (fun x => x.2.1.move (fun fr b hb _ => hb.1) fun _ _ _ _ => rfl) (S := fun xs => xs.map (·.1.2) = e.parts) (N := e.sz) (Kp := Kp b5) Kp.trans (fun W l o o' hl h ho _ => Kp.putObj hb5 W l o o' hl h ho) ?_ (encSeq hm7 hS7 (hokE hs7) hr7 hw hfi)
      (encM b5 _) (fun l w1 A1 pre x t hp _ => encAssign hp) (fun l w1 A1 pre x s hM hlen => encBody hM (by omega)) ?_
    · intro W W' s s' A1 A2 h1 h2 hfp hk _
      refine ⟨hokE h2, hk.size, fun k hc hn => ?_⟩
      rw [hwr h1.hp.own] at hn
      refine ⟨hk.block k hc.lt (.inl hc) hn, fun h => ?_⟩
      rcases hfp k ((hwr h2.hp.own k).1 h) with h | h
      · exact hn h
      · have := hc.lt; omega
    · intro D' xs s A' W hS hp hD hW hsat
      simp only [Exit.inBlock, Exit.then]
      obtain ⟨v, l⟩ := s
      have hl : l = e.enc := by have : l = octL (xs.map (·.1.2)) := hp; rw [this, hS]; rfl
      have hn := hsat.newE none
      refine wpIn_mono ((?_ : J Try.prog ⟨W, fps (encO b5 (v, l)), A', none⟩ _ _ (fun x s => x = .ret ∧ ∃ en, s = ⟨61, (3, .c (.int .i64 0)) :: (2, .c v) :: en, encO b5 (v, l), [(.pointer (some ⟨b1, 0, none⟩), .ref true (e.cs fr))], [{ target := .collected D', args := #[] }]⟩)) _ _ ⟨A', hn⟩) ?_
      · refine J.seq ?_
        refine J.region_lit ?_
        refine JL.q rfl rfl rfl (QW.load_box1 0 ty40 (.tmp rfl) rfl rfl) ?_
        refine JL.q rfl rfl rfl (QW.assign (.tmp rfl)) ?_
        refine JL.q rfl rfl rfl (QW.assign .const) ?_
        refine JL.nil ?_
        refine thenQ.n ?_
        exact J.ret ⟨rfl, _, rfl⟩
      rintro x a8 W8 ⟨s, ⟨rfl, en, rfl⟩, A8, h8⟩
      refine ⟨.inr rfl, A8, _, _, [_], [_], hsat.up h8, RetEv.two rfl (REv.tmp rfl (.refl _)) (REv.tmp rfl (.refl _)), List.perm_append_comm (l₁ := [_]) (l₂ := [_]), ⟨_, rfl, v, by rw [he], by rw [if_pos he, hl]⟩, .inr ⟨D', rfl, ?_, ?_⟩⟩
      · refine (h8.keep.block D' (heap_lt hW) fun hm => ?_).trans hW
        obtain ⟨cs, t, fz, hc⟩ := hsat.ownC D' hm
        rw [hW] at hc; cases hc
      · exact Nat.le_trans hs6.keep.size hD
end Go.Proofs.Ytlppnhkjonmniaa.J

/- Walks: what is alive; ExprParts, ExprSame. -/
namespace Go.Proofs.Ytlppnhkjonmniaa.J
open Go Go.RowKit
set_option linter.unusedVariables false
set_option linter.unusedSimpArgs false
set_option maxRecDepth 10000
set_option maxHeartbeats 4000000
theorem EX.enc_len {e : EX} (h : e.err = 0) : e.enc.length ≤ 8320 := by
  have h1 := octL_len (l := e.parts)
  have hfi := EX.fine_of h
  have hsub : ∀ (m : Nat) (x : EX), x.sz ≤ m → x.Fine → ∀ y ∈ x.parts, y.Fine := by
    intro m
    induction m with
    | zero => intro x hx; exact absurd hx (by have := EX.sz_pos x; omega)
    | succ m ih =>
      intro x hx hf y hy
      obtain ⟨o, b, t, l⟩ := x
      have hL : ∀ (r : List EX), (∀ z ∈ r, z ∈ l) → ∀ y ∈ EX.partsL r, y.Fine := by
        intro r
        induction r with
        | nil => intro _ y hy; cases hy
        | cons z r ihr =>
          intro hr y hy
          rw [EX.partsL, List.mem_append] at hy
          rcases hy with hy | hy
          · have hz := hr z (by simp)
            refine ih z ?_ (hf.kid hz) y hy
            have := EX.szs_mem hz
            rw [EX.sz_mk] at hx; omega
          · exact ihr (fun q hq => hr q (by simp [hq])) y hy
      rw [EX.parts, List.mem_cons] at hy
      rcases hy with rfl | hy
      · exact hf
      · exact hL l (fun _ h => h) y hy
  have h2 := h1 (hsub e.sz e (Nat.le_refl _) hfi)
  have h3 := EX.err_sz h
  rw [EX.parts_len] at h2
  show (octL e.parts).length ≤ _
  omega
def encL (e : EX) : List UInt8 := if e.err = 0 then e.enc else []
theorem encL_len (e : EX) : (encL e).length ≤ 8320 := by
  unfold encL; split
  · rename_i h; exact EX.enc_len h
  · simp
def encAV (e : EX) : AV := .tup [.sl true false eU8 (bytesAV (encL e)), .c (.int .i64 e.err)]
theorem enc_rd {fr : Bool} {e : EX} {ys : List AV} (hv : Xc fr e ys) (hw : e.wf) : Fn Try.prog 16 [.agg ys] (encAV e) :=
  Fn.close (enc_ok hv hw) fun x o ⟨v, hx, ho⟩ => by
    rw [show (if e.err = 0 then e.enc else []) = encL e from rfl] at ho
    subst hx ho
    exact ⟨[(v, .sl true false eU8 (bytesAV (encL e)))], fun w A hok hb p hp => Clos.arr (by rw [bytesAV_length]; have := encL_len e; show _ * 1 ≤ _; unfold reach; omega) w A (hok _ (by simp)) (fun b hb' => hb b (by simpa [fps_cons, fps_nil] using hb')) p hp, .tupL (.cons (.fact (by simp) (.refl _)) (.cons (.refl _) .nil))⟩
def xeA : EX := .mk 11 0 [] [.mk 5 0 [] [], .mk 3 0 [] []]
theorem xeA_wf : xeA.wf := .mk (by decide) (by decide) (by decide) (by decide) (fun x h => by simp at h; rcases h with rfl | rfl <;> exact .mk (by decide) (by decide) (by decide) (by decide) (fun _ h => by cases h))
theorem xeA_ok : encAV xeA = .tup [.sl true false eU8 (bytesAV [11, 5, 3, 0, 0, 0, 0, 0, 0, 0, 0]), .c (.int .i64 0)] := by
  have h1 : xeA.err = 0 := by decide
  have h2 : xeA.enc = [11, 5, 3, 0, 0, 0, 0, 0, 0, 0, 0] := by decide
  unfold encAV encL
  rw [if_pos h1, h1, h2]
theorem xeA_le {F : List (Value × AV)} : Le F (.agg [.c (.int .i64 11), .c (.int .u64 0), .c (str []), .sl true true et32 [(EX.mk 5 0 [] []).raw (.slice none 0 0), (EX.mk 3 0 [] []).raw (.slice none 0 0)]]) (.agg (xeA.cs true)) :=
  .aggL (.cons (.refl _) (.cons (.refl _) (.cons (.refl _) (.cons (.slL (fun h => h) rfl (EX.css_sz true [.mk 5 0 [] [], .mk 3 0 [] []]) (.cons (.refl _) (.cons (.refl _) (.cons (.refl _) (.cons (.nil true false _) (.cons (.refl _) (.cons (.refl _) (.cons (.refl _) (.cons (.nil true false _) .nil))))))))) .nil))))
/-! ### the plain law of ExprParts -/
theorem alive14_ok : Fn Try.prog 8 [] (.c (.bool true)) := by
  refine AC.of_J Try.func8 rfl Try.ntmps8 rfl fun w0 A0 => ?_
  refine J.seq ?_
  refine J.region_lit ?_
  refine JL.q rfl rfl rfl (QW.assign .const) ?_
  refine JL.nil ?_
  refine thenQ.n ?_
  refine J.seq ?_
  refine J.region_lit ?_
  refine JL.q rfl rfl rfl (QW.build (idx := [0]) pl32 z32 rfl (.cons .const .nil) rfl rfl rfl rfl) ?_
  refine JL.q rfl rfl rfl (QW.build (idx := [0]) pl32 z32 rfl (.cons .const .nil) rfl rfl rfl rfl) ?_
  refine JL.q rfl rfl rfl (QW.buildSlice (idx := [0, 1]) (xs := [(EX.mk 5 0 [] []).raw (.slice none 0 0), (EX.mk 3 0 [] []).raw (.slice none 0 0)]) sl30 el32 z32 rfl (.cons (.tmp rfl) (.cons (.tmp rfl) .nil)) rfl rfl rfl rfl rfl rfl rfl rfl rfl) ?_
  refine JL.q rfl rfl rfl (QW.build (idx := [0, 3]) pl32 z32 rfl (.cons .const (.cons (.tmp rfl) .nil)) rfl rfl rfl rfl) ?_
  refine JL.q rfl rfl rfl (QW.call gofn16 (.cons (Ev.le (.tmp rfl) (xeA_le)) .nil) (xeA_ok ▸ enc_rd (fr := true) (e := xeA) Xc.self xeA_wf)) ?_
  refine JL.q rfl rfl rfl (QW.move (.tmp rfl)) ?_
  refine JL.q rfl rfl rfl (QW.extract (.tmp rfl) rfl) ?_
  refine JL.q rfl rfl rfl (QW.extract (.tmp rfl) rfl) ?_
  refine JL.q rfl rfl rfl (QW.assign (.tmp rfl)) ?_
  refine JL.q rfl rfl rfl (QW.assign (.tmp rfl)) ?_
  refine JL.nil ?_
  refine thenQ.n ?_
  refine J.seq ?_
  refine J.region_lit ?_
  refine JL.q rfl rfl rfl (QW.move (.tmp rfl)) ?_
  refine JL.q rfl rfl rfl (QW.call gofn11 (.cons (.tmp rfl) .nil) (num14_ok _)) ?_
  refine JL.q rfl rfl rfl (QW.eql (.tmp rfl) .const) ?_
  refine JL.q rfl rfl rfl (QW.move (.tmp rfl)) ?_
  refine JL.g rfl rfl rfl rfl rfl (fun hg => (QW.move (.tmp rfl))) ?_
  refine JL.g rfl rfl rfl rfl rfl (fun hg => (QW.bytes_str sl40 st9 iu5 (.when rfl hg))) ?_
  refine JL.g rfl rfl rfl rfl rfl (fun hg => (QW.eql_s (.when rfl hg) .const)) ?_
  refine JL.q rfl rfl rfl (QW.pick_and (.tmp rfl) (.tmp rfl)) ?_
  refine JL.q rfl rfl rfl (QW.assign (.tmp rfl)) ?_
  refine JL.nil ?_
  refine thenQ.n ?_
  refine J.ret ?_
  exact ⟨_, selP [] _, _, RetEv.one rfl (REv.tmp rfl (.refl _)), rfl, sel_perm [] _, ⟨rfl, rfl⟩⟩
theorem exprSame_ok {a b : EX} (hw : a.wf) (hw2 : b.wf) : Fn Try.prog 4 [.agg (a.cs false), .agg (b.cs false)] (.c (.bool true)) := by
  refine AC.of_J Try.func4 rfl Try.ntmps4 rfl fun w0 A0 => ?_
  refine J.seq ?_
  refine J.region_lit ?_
  refine JL.box_agg (.tmp rfl) rfl fun b2 => ?_
  refine JL.box_agg (.tmp rfl) rfl fun b3 => ?_
  refine JL.q rfl rfl rfl (QW.assign .const) ?_
  refine JL.nil ?_
  refine thenQ.n ?_
  refine J.seq ?_
  refine J.regionX mixed ?_
  refine JX.o 0 1 [] rfl rfl rfl rfl rfl rfl rfl rfl rfl (fun ow_ ho_ => (.q rfl (by first | exact QW.load_box 1 ty25 (.tmp rfl) ho_ rfl rfl | exact QW.load_box 1 ty25 (.tmp rfl) ho_ (take_at (EX.cs_length _ _) rfl) (EX.cs_length _ _)))) ?_
  refine JX.f 1 [8] rfl rfl rfl rfl rfl rfl rfl rfl (fun ow_ => (.q rfl (QW.call gofn10 (.cons (.tmp rfl) .nil) (of14_ok (by first | exact Xc.self | exact Xc.mk) (by assumption))))) ?_
  refine JX.o 2 0 [] rfl rfl rfl rfl rfl rfl rfl rfl rfl (fun ow_ ho_ => (.q rfl (by first | exact QW.load_box 0 ty25 (.tmp rfl) ho_ rfl rfl | exact QW.load_box 0 ty25 (.tmp rfl) ho_ (take_at (EX.cs_length _ _) rfl) (EX.cs_length _ _)))) ?_
  refine JX.f 3 [10] rfl rfl rfl rfl rfl rfl rfl rfl (fun ow_ => (.q rfl (QW.call gofn10 (.cons (.tmp rfl) .nil) (of14_ok (by first | exact Xc.self | exact Xc.mk) (by assumption))))) ?_
  refine JX.a 4 rfl (AllocOp.mk z32 rfl) rfl rfl rfl rfl rfl ?_
  refine JX.a 5 rfl (AllocOp.mk z32 rfl) rfl rfl rfl rfl rfl ?_
  refine JX.one 6 [true, true, true, true, true, true] rfl (by kernel_rfl) (by kernel_rfl) rfl rfl (by kernel_rfl) rfl fun bs6_ pe_ ex_ => ?_
  refine JL.conv (by (try simp only [vlF, bxF, tkM, lvM, Flt.val, Flt.bx, List.append_assoc, List.take_succ_cons, List.take_zero, List.append_eq, id_eq, stepsO, List.map_cons, List.map_nil, valO, nthO, curO, mrg, List.reverse_cons, List.reverse_nil, List.nil_append, List.cons_append, List.append_nil, List.getElem?_cons_zero, List.getElem?_cons_succ, Option.map_some, Option.getD_some, List.set_cons_zero, List.set_cons_succ, AV.cellsOf, splice_zero, splice_succ, Nat.zero_add, Nat.reduceAdd]); rfl) ?_
  first | refine JL.store_boxF 3 ty32 (.tmp rfl) rfl (.tmp rfl) (by first | rfl | assumption) (rfl) (rfl) rfl ?_ | refine JL.store_boxF 3 ty32 (.tmp rfl) rfl (.tmp rfl) (by first | rfl | assumption) (rfl) (EX.cs_length _ _) rfl ?_ | refine JL.store_boxF 3 ty32 (.tmp rfl) rfl (.tmp rfl) (by first | rfl | assumption) (EX.cs_length _ _) (rfl) rfl ?_ | refine JL.store_boxF 3 ty32 (.tmp rfl) rfl (.tmp rfl) (by first | rfl | assumption) (EX.cs_length _ _) (EX.cs_length _ _) rfl ?_ | refine JL.store_box 3 ty32 (.tmp rfl) rfl (.tmp rfl) (by first | rfl | assumption) rfl rfl rfl rfl ?_ | refine JL.store_box 3 ty32 (.tmp rfl) rfl (.tmp rfl) (by first | rfl | assumption) (EX.cs_length _ _) rfl rfl rfl ?_
  refine JL.nil ?_
  refine thenQ.n ⟨[], _, rfl, rfl, rfl, rfl, rfl, Reown.tkN 4 rfl, trivial, trivial, ?_⟩
  refine JX.conv (S' := [6, 5, 4, 3, 2, 1, 0]) rfl (by (try simp only [lvM]); rfl) (by (try simp only [vlF, bxF, tkM, lvM, Flt.val, Flt.bx, List.append_assoc, List.take_succ_cons, List.take_zero, List.append_eq, id_eq, stepsO, List.map_cons, List.map_nil, valO, nthO, curO, mrg, List.reverse_cons, List.reverse_nil, List.nil_append, List.cons_append, List.append_nil, List.getElem?_cons_zero, List.getElem?_cons_succ, Option.map_some, Option.getD_some, List.set_cons_zero, List.set_cons_succ, AV.cellsOf, splice_zero, splice_succ, Nat.zero_add, Nat.reduceAdd]); rfl) ?_
  refine JX.one 7 [] rfl (by kernel_rfl) (by kernel_rfl) rfl rfl (by kernel_rfl) rfl fun bs7_ pe_ ex_ => ?_
  refine JL.conv (by (try simp only [vlF, bxF, tkM, lvM, Flt.val, Flt.bx, List.append_assoc, List.take_succ_cons, List.take_zero, List.append_eq, id_eq, stepsO, List.map_cons, List.map_nil, valO, nthO, curO, mrg, List.reverse_cons, List.reverse_nil, List.nil_append, List.cons_append, List.append_nil, List.getElem?_cons_zero, List.getElem?_cons_succ, Option.map_some, Option.getD_some, List.set_cons_zero, List.set_cons_succ, AV.cellsOf, splice_zero, splice_succ, Nat.zero_add, Nat.reduceAdd]); rfl) ?_
  first | refine JL.store_boxF 2 ty32 (.tmp rfl) rfl (.tmp rfl) (by first | rfl | assumption) (rfl) (rfl) rfl ?_ | refine JL.store_boxF 2 ty32 (.tmp rfl) rfl (.tmp rfl) (by first | rfl | assumption) (rfl) (EX.cs_length _ _) rfl ?_ | refine JL.store_boxF 2 ty32 (.tmp rfl) rfl (.tmp rfl) (by first | rfl | assumption) (EX.cs_length _ _) (rfl) rfl ?_ | refine JL.store_boxF 2 ty32 (.tmp rfl) rfl (.tmp rfl) (by first | rfl | assumption) (EX.cs_length _ _) (EX.cs_length _ _) rfl ?_ | refine JL.store_box 2 ty32 (.tmp rfl) rfl (.tmp rfl) (by first | rfl | assumption) rfl rfl rfl rfl ?_ | refine JL.store_box 2 ty32 (.tmp rfl) rfl (.tmp rfl) (by first | rfl | assumption) (EX.cs_length _ _) rfl rfl rfl ?_
  refine JL.nil ?_
  refine thenQ.n ⟨[], _, rfl, rfl, rfl, rfl, rfl, Reown.tkN 4 rfl, trivial, trivial, ?_⟩
  refine JX.conv (S' := [7, 6, 5, 4, 3, 2, 1, 0]) rfl (by (try simp only [lvM]); rfl) (by (try simp only [vlF, bxF, tkM, lvM, Flt.val, Flt.bx, List.append_assoc, List.take_succ_cons, List.take_zero, List.append_eq, id_eq, stepsO, List.map_cons, List.map_nil, valO, nthO, curO, mrg, List.reverse_cons, List.reverse_nil, List.nil_append, List.cons_append, List.append_nil, List.getElem?_cons_zero, List.getElem?_cons_succ, Option.map_some, Option.getD_some, List.set_cons_zero, List.set_cons_succ, AV.cellsOf, splice_zero, splice_succ, Nat.zero_add, Nat.reduceAdd]); rfl) ?_
  refine JX.fin (by kernel_rfl) (by kernel_rfl) fun bs_ => ?_
  refine QX.conv (by (try simp only [vlF, bxF, tkM, lvM, Flt.val, Flt.bx, List.append_assoc, List.take_succ_cons, List.take_zero, List.append_eq, id_eq, stepsO, List.map_cons, List.map_nil, valO, nthO, curO, mrg, List.reverse_cons, List.reverse_nil, List.nil_append, List.cons_append, List.append_nil, List.getElem?_cons_zero, List.getElem?_cons_succ, Option.map_some, Option.getD_some, List.set_cons_zero, List.set_cons_succ, AV.cellsOf, splice_zero, splice_succ, Nat.zero_add, Nat.reduceAdd]); rfl) ?_
  refine thenQ.n ?_
  refine J.seq ?_
  refine J.region_lit ?_
  refine JL.q rfl rfl rfl (by first | exact QW.load_box 1 ty25 (.tmp rfl) rfl rfl rfl | exact QW.load_box 1 ty25 (.tmp rfl) rfl (take_at (EX.cs_length _ _) rfl) (EX.cs_length _ _)) ?_
  refine JL.q rfl rfl rfl (QW.call gofn12 (.cons (.tmp rfl) .nil) (ercheck_ok (by first | exact Xc.self | exact Xc.mk) (by assumption))) ?_
  refine JL.q rfl rfl rfl (QW.eql (.tmp rfl) .const) ?_
  refine JL.q rfl rfl rfl (QW.assign (.tmp rfl)) ?_
  refine JL.nil ?_
  refine thenQ.n ?_
  refine J.seq ?_
  refine J.regionX mixed ?_
  refine JX.o 0 3 [] rfl rfl rfl rfl rfl rfl rfl rfl rfl (fun ow_ ho_ => (.q rfl (by first | exact QW.load_box 3 ty32 (.tmp rfl) ho_ rfl rfl | exact QW.load_box 3 ty32 (.tmp rfl) ho_ (take_at (EX.cs_length _ _) rfl) (EX.cs_length _ _)))) ?_
  refine JX.o 1 2 [] rfl rfl rfl rfl rfl rfl rfl rfl rfl (fun ow_ ho_ => (.q rfl (by first | exact QW.load_box 2 ty32 (.tmp rfl) ho_ rfl rfl | exact QW.load_box 2 ty32 (.tmp rfl) ho_ (take_at (EX.cs_length _ _) rfl) (EX.cs_length _ _)))) ?_
  refine JX.f 2 [15, 16] rfl rfl rfl rfl rfl rfl rfl rfl (fun ow_ => (.q rfl (QW.call gofn13 (.cons (.tmp rfl) (.cons (.tmp rfl) .nil)) (esame_ok (by first | exact Xc.self | exact Xc.mk) (by first | exact Xc.self | exact Xc.mk) (by assumption) (by assumption))))) ?_
  refine JX.o 3 1 [] rfl rfl rfl rfl rfl rfl rfl rfl rfl (fun ow_ ho_ => (.q rfl (by first | exact QW.load_box 1 ty25 (.tmp rfl) ho_ rfl rfl | exact QW.load_box 1 ty25 (.tmp rfl) ho_ (take_at (EX.cs_length _ _) rfl) (EX.cs_length _ _)))) ?_
  refine JX.o 4 0 [] rfl rfl rfl rfl rfl rfl rfl rfl rfl (fun ow_ ho_ => (.q rfl (by first | exact QW.load_box 0 ty25 (.tmp rfl) ho_ rfl rfl | exact QW.load_box 0 ty25 (.tmp rfl) ho_ (take_at (EX.cs_length _ _) rfl) (EX.cs_length _ _)))) ?_
  refine JX.f 5 [18, 19] rfl rfl rfl rfl rfl rfl rfl rfl (fun ow_ => (.q rfl (QW.call gofn14 (.cons (.tmp rfl) (.cons (.tmp rfl) .nil)) (ersame_ok (by first | exact Xc.self | exact Xc.mk) (by first | exact Xc.self | exact Xc.mk) (by assumption) (by assumption))))) ?_
  refine JX.f 6 [17, 20] rfl rfl rfl rfl rfl rfl rfl rfl (fun ow_ => (.q rfl (QW.eql_b bo4 (.tmp rfl) (.tmp rfl)))) ?_
  refine JX.f 7 [21] rfl rfl rfl rfl rfl rfl rfl rfl (fun ow_ => (.q rfl (QW.move (.tmp rfl)))) ?_
  refine JX.o 8 3 [22] rfl rfl rfl rfl rfl rfl rfl rfl rfl (fun ow_ ho_ => (.g rfl rfl rfl (fun hg => (by first | exact QW.load_box 3 ty32 (.tmp rfl) ho_ rfl rfl | exact QW.load_box 3 ty32 (.tmp rfl) ho_ (take_at (EX.cs_length _ _) rfl) (EX.cs_length _ _))))) ?_
  refine JX.o 9 1 [22] rfl rfl rfl rfl rfl rfl rfl rfl rfl (fun ow_ ho_ => (.g rfl rfl rfl (fun hg => (by first | exact QW.load_box 1 ty25 (.tmp rfl) ho_ rfl rfl | exact QW.load_box 1 ty25 (.tmp rfl) ho_ (take_at (EX.cs_length _ _) rfl) (EX.cs_length _ _))))) ?_
  refine JX.f 10 [24, 22] rfl rfl rfl rfl rfl rfl rfl rfl (fun ow_ => (.g rfl rfl rfl (fun hg => (QW.call gofn10 (.cons (.when rfl hg) .nil) (of14_ok (by first | exact Xc.self | exact Xc.mk) (by assumption)))))) ?_
  refine JX.f 11 [23, 25, 22] rfl rfl rfl rfl rfl rfl rfl rfl (fun ow_ => (.g rfl rfl rfl (fun hg => (QW.call gofn13 (.cons (.when rfl hg) (.cons (.when rfl hg) .nil)) (esame_ok (by first | exact Xc.self | exact Xc.mk) (by first | exact Xc.self | exact Xc.mk) (by assumption) (by assumption)))))) ?_
  refine JX.f 12 [22] rfl rfl rfl rfl rfl rfl rfl rfl (fun ow_ => (.g rfl rfl rfl (fun hg => (QW.move (.tmp rfl))))) ?_
  refine JX.f 13 [26, 27, 22] rfl rfl rfl rfl rfl rfl rfl rfl (fun ow_ => (.g rfl rfl rfl (fun hg => (QW.eql_b bo4 (.when rfl hg) (.when rfl hg))))) ?_
  refine JX.f 14 [22, 28] rfl rfl rfl rfl rfl rfl rfl rfl (fun ow_ => (.q rfl (QW.pick_and (.tmp rfl) (.tmp rfl)))) ?_
  refine JX.f 15 [29] rfl rfl rfl rfl rfl rfl rfl rfl (fun ow_ => (.q rfl (QW.move (.tmp rfl)))) ?_
  refine JX.o 16 3 [30] rfl rfl rfl rfl rfl rfl rfl rfl rfl (fun ow_ ho_ => (.g rfl rfl rfl (fun hg => (by first | exact QW.load_box 3 ty32 (.tmp rfl) ho_ rfl rfl | exact QW.load_box 3 ty32 (.tmp rfl) ho_ (take_at (EX.cs_length _ _) rfl) (EX.cs_length _ _))))) ?_
  refine JX.o 17 1 [30] rfl rfl rfl rfl rfl rfl rfl rfl rfl (fun ow_ ho_ => (.g rfl rfl rfl (fun hg => (by first | exact QW.load_box 1 ty25 (.tmp rfl) ho_ rfl rfl | exact QW.load_box 1 ty25 (.tmp rfl) ho_ (take_at (EX.cs_length _ _) rfl) (EX.cs_length _ _))))) ?_
  refine JX.f 18 [31, 32, 30] rfl rfl rfl rfl rfl rfl rfl rfl (fun ow_ => (.g rfl rfl rfl (fun hg => (QW.call gofn15 (.cons (.when rfl hg) (.cons (.when rfl hg) .nil)) (elalike_ok (by first | exact Xc.self | exact Xc.mk) (by first | exact Xc.self | exact Xc.mk) (by assumption) (by assumption)))))) ?_
  refine JX.f 19 [33, 30] rfl rfl rfl rfl rfl rfl rfl rfl (fun ow_ => (.g rfl rfl rfl (fun hg => (QW.eql (.when rfl hg) .const)))) ?_
  refine JX.f 20 [30, 34] rfl rfl rfl rfl rfl rfl rfl rfl (fun ow_ => (.q rfl (QW.pick_and (.tmp rfl) (.tmp rfl)))) ?_
  refine JX.f 21 [35] rfl rfl rfl rfl rfl rfl rfl rfl (fun ow_ => (.q rfl (QW.move (.tmp rfl)))) ?_
  refine JX.o 22 2 [36] rfl rfl rfl rfl rfl rfl rfl rfl rfl (fun ow_ ho_ => (.g rfl rfl rfl (fun hg => (by first | exact QW.load_box 2 ty32 (.tmp rfl) ho_ rfl rfl | exact QW.load_box 2 ty32 (.tmp rfl) ho_ (take_at (EX.cs_length _ _) rfl) (EX.cs_length _ _))))) ?_
  refine JX.o 23 0 [36] rfl rfl rfl rfl rfl rfl rfl rfl rfl (fun ow_ ho_ => (.g rfl rfl rfl (fun hg => (by first | exact QW.load_box 0 ty25 (.tmp rfl) ho_ rfl rfl | exact QW.load_box 0 ty25 (.tmp rfl) ho_ (take_at (EX.cs_length _ _) rfl) (EX.cs_length _ _))))) ?_
  refine JX.f 24 [37, 38, 36] rfl rfl rfl rfl rfl rfl rfl rfl (fun ow_ => (.g rfl rfl rfl (fun hg => (QW.call gofn15 (.cons (.when rfl hg) (.cons (.when rfl hg) .nil)) (elalike_ok (by first | exact Xc.self | exact Xc.mk) (by first | exact Xc.self | exact Xc.mk) (by assumption) (by assumption)))))) ?_
  refine JX.f 25 [39, 36] rfl rfl rfl rfl rfl rfl rfl rfl (fun ow_ => (.g rfl rfl rfl (fun hg => (QW.eql (.when rfl hg) .const)))) ?_
  refine JX.f 26 [36, 40] rfl rfl rfl rfl rfl rfl rfl rfl (fun ow_ => (.q rfl (QW.pick_and (.tmp rfl) (.tmp rfl)))) ?_
  refine JX.f 27 [41] rfl rfl rfl rfl rfl rfl rfl rfl (fun ow_ => (.q rfl (QW.move (.tmp rfl)))) ?_
  refine JX.f 28 [42] rfl rfl rfl rfl rfl rfl rfl rfl (fun ow_ => (.g rfl rfl rfl (fun hg => (QW.call gofn8 .nil (alive14_ok))))) ?_
  refine JX.f 29 [42, 43] rfl rfl rfl rfl rfl rfl rfl rfl (fun ow_ => (.q rfl (QW.pick_and (.tmp rfl) (.tmp rfl)))) ?_
  refine JX.f 30 [44] rfl rfl rfl rfl rfl rfl rfl rfl (fun ow_ => (.q rfl (QW.assign (.tmp rfl)))) ?_
  refine JX.fin (by kernel_rfl) (by kernel_rfl) fun bs_ => ?_
  refine QX.conv (by (try simp only [vlF, bxF, tkM, lvM, Flt.val, Flt.bx, List.append_assoc, List.take_succ_cons, List.take_zero, List.append_eq, id_eq, stepsO, List.map_cons, List.map_nil, valO, nthO, curO, mrg, List.reverse_cons, List.reverse_nil, List.nil_append, List.cons_append, List.append_nil, List.getElem?_cons_zero, List.getElem?_cons_succ, Option.map_some, Option.getD_some, List.set_cons_zero, List.set_cons_succ, AV.cellsOf, splice_zero, splice_succ, Nat.zero_add, Nat.reduceAdd]); rfl) ?_
  refine thenQ.n ?_
  refine J.ret ?_
  exact ⟨_, selP [.k, .k, .k, .k] _, _, RetEv.one rfl (REv.tmp rfl (.refl _)), rfl, sel_perm [.k, .k, .k, .k] _, ⟨ret_b (by simp [EX.sameM, EX.same_refl]), rfl⟩⟩
end Go.Proofs.Ytlppnhkjonmniaa.J

