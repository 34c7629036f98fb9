/- Texts of this proof, laid together. -/
import Derived.Test.YtlppnhkjonmniaaX4RExprOwn
/- Walks: expressions, one part. -/
namespace Go.Proofs.Ytlppnhkjonmniaa.J
open Go Go.RowKit
set_option linter.unusedVariables false
set_option linter.unusedSimpArgs false
set_option maxRecDepth 10000
set_option maxHeartbeats 4000000
theorem part_arith {q n lo hi tl : Int} {z : Bool} (hn : 0 ≤ n) (hq : q = -2 ∨ q = -1 ∨ (0 ≤ q ∧ q ≤ 3)) :
    ((decide (q ≠ -2) && z) && (decide ((if q = -1 then 0 else if q = -2 then 2 else q) ≤ n) && decide (n ≤ (if q = -1 then 8 else if q = -2 then 2 else q))) && (decide (lo ≤ tl) && decide (tl ≤ hi))) =
    (decide (q ≠ -2) && (q == -1 || (n == q)) && decide (n ≤ 8) && decide (lo ≤ tl) && decide (tl ≤ hi) && z) := by
  rw [Bool.eq_iff_iff]
  simp only [Bool.and_eq_true, Bool.or_eq_true, decide_eq_true_eq, beq_iff_eq]
  rcases hq with rfl | rfl | ⟨h4, h5⟩
  · simp
  · simp
    constructor
    · rintro ⟨⟨h6, h7, h7'⟩, h8, h9⟩; exact ⟨⟨⟨h7', h8⟩, h9⟩, h6⟩
    · rintro ⟨⟨⟨h6, h8⟩, h9⟩, h7⟩; exact ⟨⟨h7, by omega, h6⟩, h8, h9⟩
  · rw [if_neg (by omega), if_neg (by omega)]
    constructor
    · rintro ⟨⟨⟨h6, h7⟩, h8, h9⟩, h10, h11⟩; exact ⟨⟨⟨⟨⟨h6, .inr (by omega)⟩, by omega⟩, h10⟩, h11⟩, h7⟩
    · rintro ⟨⟨⟨⟨⟨h6, h12⟩, h13⟩, h10⟩, h11⟩, h7⟩
      have : n = q := h12.resolve_left (by omega)
      exact ⟨⟨⟨h6, h7⟩, by omega, by omega⟩, h10, h11⟩
theorem part_eq {o : Int} {b : Nat} {t : List UInt8} {l : List EX} {n : Int} (hn : n = (l.length : Int)) :
    ((decide (argsN o ≠ -2) && (((b : Int) == 0) || ((o == 3) && ((canonN b : Int) == (b : Int))))) && (decide (shLo o ≤ n) && decide (n ≤ shHi o)) && (decide (textLo o ≤ (t.length : Int)) && decide ((t.length : Int) ≤ textHi o))) = (EX.mk o b t l).ok := by
  subst hn
  have hz : canonN 0 = 0 := by decide
  have h1 : (((b : Int) == 0) || ((o == 3) && ((canonN b : Int) == (b : Int)))) = (if o = 3 then canonN b == b else b == 0) := by
    by_cases h3 : o = 3
    · subst h3
      rw [if_pos rfl, Bool.eq_iff_iff]
      simp
      constructor
      · rintro (h | h)
        · have : b = 0 := by omega
          rw [this, hz]
        · omega
      · intro h; right; rw [h]
    · rw [if_neg h3, Bool.eq_iff_iff]
      simp [h3]
  have ha : argsN o = -2 ∨ argsN o = -1 ∨ (0 ≤ argsN o ∧ argsN o ≤ 3) := by unfold argsN; (repeat' split) <;> omega
  rw [h1]
  exact part_arith (by omega) ha
theorem epart_ok {fr : Bool} {v : EX} {ys : List AV} (hv : Xc fr v ys) : Fn Try.prog 33 [.agg ys] (.c (.bool v.ok)) := by
  obtain ⟨o, b, t, l⟩ := v
  subst hv
  refine AC.of_J Try.func33 rfl Try.ntmps33 rfl fun w0 A0 => ?_
  refine J.seq ?_
  refine J.region_lit ?_
  refine JL.box_agg (.tmp rfl) rfl fun b1 => ?_
  refine JL.q rfl rfl rfl (QW.assign .const) ?_
  refine JL.nil ?_
  refine thenQ.n ?_
  refine J.seq ?_
  refine J.region_lit ?_
  refine JL.q rfl rfl rfl (QW.field_ptr fo32_0 (.tmp rfl) rfl) ?_
  refine JL.q rfl rfl rfl (QW.load_box1 0 ty3 (.tmp rfl) rfl rfl) ?_
  refine JL.q rfl rfl rfl (QW.call gofn37 (.cons (.tmp rfl) .nil) (shapeOf_ok _)) ?_
  refine JL.q rfl rfl rfl (QW.move (.tmp rfl)) ?_
  refine JL.q rfl rfl rfl (QW.extract (.tmp rfl) rfl) ?_
  refine JL.q rfl rfl rfl (QW.extract (.tmp rfl) rfl) ?_
  refine JL.alloc z71 rfl rfl fun b3 => ?_
  first | refine JL.store_boxF 0 ty71 (.tmp rfl) rfl (.tmp rfl) (by first | rfl | assumption) (rfl) (rfl) rfl ?_ | refine JL.store_box 0 ty71 (.tmp rfl) rfl (.tmp rfl) (by first | rfl | assumption) rfl rfl rfl rfl ?_
  refine JL.q rfl rfl rfl (QW.assign (.tmp rfl)) ?_
  refine JL.nil ?_
  refine thenQ.n ?_
  refine J.seq ?_
  refine J.region_tailK 13 mixed (by kernel_rfl) (by kernel_rfl) (by kernel_rfl) rfl ?_
  refine .cons [] rfl rfl rfl (.q rfl (QW.field_ptr fo32_1 (.tmp rfl) rfl)) ?_
  refine .cons [12] rfl rfl rfl (.q rfl (QW.load_box1 1 ty22 (.tmp rfl) rfl rfl)) ?_
  refine .cons [13] rfl rfl rfl (.q rfl (QW.eql (.tmp rfl) .const)) ?_
  refine .cons [14] rfl rfl rfl (.q rfl (QW.move (.tmp rfl))) ?_
  refine .cons [15] rfl rfl rfl (.g rfl rfl rfl (fun hg => (QW.field_ptr fo32_0 (.tmp rfl) rfl))) ?_
  refine .cons [16, 15] rfl rfl rfl (.g rfl rfl rfl (fun hg => (QW.load_box1 1 ty3 (.when rfl hg) rfl rfl))) ?_
  refine .cons [17, 15] rfl rfl rfl (.g rfl rfl rfl (fun hg => (QW.eql (.when rfl hg) .const))) ?_
  refine .cons [18, 15] rfl rfl rfl (.g rfl rfl rfl (fun hg => (QW.move (.when rfl hg)))) ?_
  refine .cons [19] rfl rfl rfl (.gg rfl rfl rfl (fun hg => (QW.field_ptr fo32_1 (.tmp rfl) rfl))) ?_
  refine .cons [20, 19] rfl rfl rfl (.gg rfl rfl rfl (fun hg => (QW.load_box1 1 ty22 (.when rfl hg) rfl rfl))) ?_
  refine .cons [21, 19] rfl rfl rfl (.gg rfl rfl rfl (fun hg => (QW.call gofn39 (.cons (.when rfl hg) .nil) (canon_ok _)))) ?_
  refine .cons [19] rfl rfl rfl (.gg rfl rfl rfl (fun hg => (QW.field_ptr fo32_1 (.tmp rfl) rfl))) ?_
  refine .cons [23, 19] rfl rfl rfl (.gg rfl rfl rfl (fun hg => (QW.load_box1 1 ty22 (.when rfl hg) rfl rfl))) ?_
  refine .nil ?_
  refine JL.gg rfl rfl rfl rfl rfl (fun hg => (QW.eql (.when rfl hg) (.when rfl hg))) ?_
  refine JL.g rfl rfl rfl rfl rfl (fun hg => (by first | exact QW.pick_and (.when rfl hg) (.tmp rfl) | exact QW.pick_and2 hg (.when rfl hg) (.tmp rfl))) ?_
  refine JL.q rfl rfl rfl (QW.pick_or (.tmp rfl) (.tmp rfl)) ?_
  refine JL.q rfl rfl rfl (QW.assign (.tmp rfl)) ?_
  refine JL.nil ?_
  refine thenQ.n ?_
  refine J.seq ?_
  refine J.region_lit ?_
  refine JL.q rfl rfl rfl (QW.move (.tmp rfl)) ?_
  refine JL.q rfl rfl rfl (QW.move (.tmp rfl)) ?_
  refine JL.g rfl rfl rfl rfl rfl (fun hg => (QW.move (.tmp rfl))) ?_
  refine JL.q rfl rfl rfl (QW.pick_and (.tmp rfl) (.tmp rfl)) ?_
  refine JL.q rfl rfl rfl (QW.move (.tmp rfl)) ?_
  refine JL.g rfl rfl rfl rfl rfl (fun hg => (QW.field_ptr fo32_3 (.tmp rfl) rfl)) ?_
  refine JL.g rfl rfl rfl rfl rfl (fun hg => (QW.load_box1 1 ty30 (.when rfl hg) rfl rfl)) ?_
  refine JL.g rfl rfl rfl rfl rfl (fun hg => (by first | exact QW.len_sl sl30 (.when rfl hg) | exact QW.len_nil sl30 (.when rfl hg))) ?_
  refine JL.g rfl rfl rfl rfl rfl (fun hg => (QW.field_ptr fo71_0 (.tmp rfl) rfl)) ?_
  refine JL.g rfl rfl rfl rfl rfl (fun hg => (QW.load_box1 0 ty3 (.when rfl hg) rfl rfl)) ?_
  refine JL.g rfl rfl rfl rfl rfl (fun hg => (QW.field_ptr fo71_1 (.tmp rfl) rfl)) ?_
  refine JL.g rfl rfl rfl rfl rfl (fun hg => (QW.load_box1 0 ty3 (.when rfl hg) rfl rfl)) ?_
  refine JL.g rfl rfl rfl rfl rfl (fun hg => (QW.call gofn40 (.cons (.when rfl hg) (.cons (.when rfl hg) (.cons (.when rfl hg) .nil))) (within_ok _ _ _))) ?_
  refine JL.q rfl rfl rfl (QW.pick_and (.tmp rfl) (.tmp rfl)) ?_
  refine JL.q rfl rfl rfl (QW.move (.tmp rfl)) ?_
  refine JL.g rfl rfl rfl rfl rfl (fun hg => (QW.field_ptr fo32_2 (.tmp rfl) rfl)) ?_
  refine JL.g rfl rfl rfl rfl rfl (fun hg => (QW.load_box1 1 ty9 (.when rfl hg) rfl rfl)) ?_
  refine JL.g rfl rfl rfl rfl rfl (fun hg => (QW.len_s st9 (.when rfl hg))) ?_
  refine JL.g rfl rfl rfl rfl rfl (fun hg => (QW.field_ptr fo71_2 (.tmp rfl) rfl)) ?_
  refine JL.g rfl rfl rfl rfl rfl (fun hg => (QW.load_box1 0 ty3 (.when rfl hg) rfl rfl)) ?_
  refine JL.g rfl rfl rfl rfl rfl (fun hg => (QW.field_ptr fo71_3 (.tmp rfl) rfl)) ?_
  refine JL.g rfl rfl rfl rfl rfl (fun hg => (QW.load_box1 0 ty3 (.when rfl hg) rfl rfl)) ?_
  refine JL.g rfl rfl rfl rfl rfl (fun hg => (QW.call gofn40 (.cons (.when rfl hg) (.cons (.when rfl hg) (.cons (.when rfl hg) .nil))) (within_ok _ _ _))) ?_
  refine JL.q rfl rfl rfl (QW.pick_and (.tmp rfl) (.tmp rfl)) ?_
  refine JL.q rfl rfl rfl (QW.assign (.tmp rfl)) ?_
  refine JL.nil ?_
  refine thenQ.n ?_
  refine J.ret ?_
  exact ⟨_, selP [.k, .k] _, _, RetEv.one rfl (REv.tmp rfl (.refl _)), rfl, sel_perm [.k, .k] _, ⟨by rw [← part_eq (n := ((EX.css fr l).length : Int)) (by rw [EX.css_length])], rfl⟩⟩
end Go.Proofs.Ytlppnhkjonmniaa.J

/- Walks: expressions, the page's own small functions. -/
namespace Go.Proofs.Ytlppnhkjonmniaa.J
open Go Go.RowKit
set_option linter.unusedVariables false
set_option linter.unusedSimpArgs false
set_option maxRecDepth 10000
set_option maxHeartbeats 4000000
end Go.Proofs.Ytlppnhkjonmniaa.J

/- Walks: both walks over an expression. -/
namespace Go.Proofs.Ytlppnhkjonmniaa.J
open Go Go.RowKit
set_option linter.unusedVariables false
set_option linter.unusedSimpArgs false
set_option maxRecDepth 10000
set_option maxHeartbeats 4000000
theorem EX.chks_cons {is : List EX} {j : Nat} (h : j < is.length) (lev n : Int) : EX.chks (is.drop j) lev n = if (EX.chk is[j] (lev + 1) n).1 ≠ 0 then EX.chk is[j] (lev + 1) n else EX.chks (is.drop (j + 1)) lev (EX.chk is[j] (lev + 1) n).2 := by
  rw [List.drop_eq_getElem_cons h, EX.chks]
theorem EX.depths_cons {is : List EX} {j : Nat} (h : j < is.length) : EX.depths (is.drop j) = max is[j].depth (EX.depths (is.drop (j + 1))) := by
  rw [List.drop_eq_getElem_cons h, EX.depths]
def EWalkR (v : EX) (lev n : Int) : AV → List Own → Prop := fun x o => o = [] ∧ ∃ p d : Int, x = .tup [.c (.int .i64 p), .c (.int .i64 d), .c (.int .i64 (v.chk lev n).1)] ∧ ((v.chk lev n).1 = 0 → p = (v.chk lev n).2 ∧ d = lev + v.depth - 1)
theorem EWalkR.mk {v : EX} {lev n p d e : Int} (he : e = (v.chk lev n).1) (h : (v.chk lev n).1 = 0 → p = (v.chk lev n).2 ∧ d = lev + v.depth - 1) : RetR (EWalkR v lev n) (.ret (.tup [.c (.int .i64 p), .c (.int .i64 d), .c (.int .i64 e)])) [] :=
  ⟨_, rfl, rfl, p, d, by rw [he], h⟩
def wk (b : Nat) (p d : Int) : Own := .box b [.c (.int .i64 p), .c (.int .i64 d)]
def EWR (v : EX) (lev p d : Int) (bw : Nat) : Res → List Own → Prop := PanR ((v.chk lev p).1 = 0) (errV (v.chk lev p).1) fun x o => x = .tup [] ∧ o = [wk bw (v.chk lev p).2 (max d (lev + v.depth - 1))]
theorem ewalk_n  : ∀ (n : Nat) {v : EX} {ys : List AV} {fr : Bool} {lev p d : Int} {bw : Nat}, Xc fr v ys → v.wf → 1 ≤ lev ∧ lev ≤ 9 → 0 ≤ p ∧ p ≤ 64 → v.sz ≤ n →
    AC Try.prog 23 [wk bw p d] [.c (.pointer (some ⟨bw, 0, none⟩)), .agg ys, .c (.int .i64 lev)] (EWR v lev p d bw) := by
  intro n
  induction n with
  | zero => intro v ys fr lev p d bw hv hw hl hp h; exact absurd h (by have := EX.sz_pos v; omega)
  | succ n ih =>
    intro v ys fr lev p d bw hv hw hl hp hn
    obtain ⟨o, b, t, is⟩ := v
    subst hv
    obtain ⟨-, -, -, hi80, hwi⟩ := hw.inv
    have hi64 : is.length ≤ 9223372036854775806 := by unfold reach at hi80; omega
    refine AC.of_J Try.func23 rfl Try.ntmps23 rfl fun w0 A0 => ?_
    refine J.seq ?_
    refine J.region_lit ?_
    refine JL.box_agg (.tmp rfl) rfl fun b4 => ?_
    refine JL.nil ?_
    refine thenQ.n ?_
    refine J.seq ?_
    refine J.region_lit ?_
    refine JL.q rfl rfl rfl (QW.move (.tmp rfl)) ?_
    refine JL.q rfl rfl rfl (QW.leq (.tmp rfl) .const) ?_
    refine JL.callPF [] gofn32 rfl Lent.nil (fun _ => (.cons (.tmp rfl) (.cons .const .nil))) (need_ok _ _) (.inl rfl) (fun k10 x10 o10 h10 => ?_) (fun k10 => ?_)
    rotate_left
    · skip
      refine thenQ.p ?_
      exact ⟨_, selP [.k, .k] _, _, rfl, rfl, sel_perm [.k, .k] _, PanR.of (by simp [EX.chk, show 8 < lev by simpa using k10]) (by decide)⟩
    obtain ⟨rfl, rfl⟩ := h10
    refine JL.nil ?_
    refine thenQ.n ?_
    refine J.seq ?_
    refine J.region_lit ?_
    have hk10 : lev ≤ 8 := by simpa using k10
    refine JL.q rfl rfl rfl (QW.move (.tmp rfl)) ?_
    refine JL.q rfl rfl rfl (QW.nil_ptr (.tmp rfl)) ?_
    refine JL.q rfl rfl rfl (QW.field_ptr fo53_0 (.tmp rfl) rfl) ?_
    refine JL.q rfl rfl rfl (QW.load_box1 1 ty3 (.tmp rfl) rfl rfl) ?_
    refine JL.q rfl rfl rfl (QW.lss (.tmp rfl) .const) ?_
    refine JL.callPF [] gofn32 rfl Lent.nil (fun _ => (.cons (.tmp rfl) (.cons .const .nil))) (need_ok _ _) (.inl rfl) (fun k16 x16 o16 h16 => ?_) (fun k16 => ?_)
    rotate_left
    · skip
      refine thenQ.p ?_
      exact ⟨_, selP [.k, .k] _, _, rfl, rfl, sel_perm [.k, .k] _, PanR.of (by simp [EX.chk, show ¬ 8 < lev by omega, show 64 ≤ p by simpa using k16]) (by decide)⟩
    obtain ⟨rfl, rfl⟩ := h16
    refine JL.nil ?_
    refine thenQ.n ?_
    refine J.seq ?_
    refine J.region_lit ?_
    have hk16 : p < 64 := by simpa using k16
    refine JL.q rfl rfl rfl (by first | exact QW.load_box 0 ty32 (.tmp rfl) rfl rfl rfl | exact QW.load_box 0 ty32 (.tmp rfl) rfl (take_at (EX.cs_length _ _) rfl) (EX.cs_length _ _)) ?_
    refine JL.q rfl rfl rfl (QW.call gofn33 (.cons (.tmp rfl) .nil) (epart_ok Xc.mk)) ?_
    refine JL.callPF [] gofn32 rfl Lent.nil (fun _ => (.cons (.tmp rfl) (.cons .const .nil))) (need_ok _ _) (.inl rfl) (fun k19 x19 o19 h19 => ?_) (fun k19 => ?_)
    rotate_left
    · skip
      refine thenQ.p ?_
      exact ⟨_, selP [.k, .k] _, _, rfl, rfl, sel_perm [.k, .k] _, PanR.of (by simp [EX.chk, show ¬ 8 < lev by omega, show ¬ 64 ≤ p by omega, show (EX.mk o b t is).ok = false by simpa using k19]) (by decide)⟩
    obtain ⟨rfl, rfl⟩ := h19
    refine JL.nil ?_
    refine thenQ.n ?_
    refine J.seq ?_
    refine J.region_lit ?_
    have hk19 : (EX.mk o b t is).ok = true := k19
    refine JL.q rfl rfl rfl (QW.move (.tmp rfl)) ?_
    refine JL.q rfl rfl rfl (QW.nil_ptr (.tmp rfl)) ?_
    refine JL.q rfl rfl rfl (QW.field_ptr fo53_0 (.tmp rfl) rfl) ?_
    refine JL.q rfl rfl rfl (QW.load_box1 1 ty3 (.tmp rfl) rfl rfl) ?_
    refine JL.q rfl rfl rfl (QW.add (.tmp rfl) .const (by first | exact w64n (by first | rfl | omega | (simp; done)) (by omega) | exact w64 (by omega) | rfl)) ?_
    refine JL.q rfl rfl rfl (QW.nil_ptr (.tmp rfl)) ?_
    refine JL.q rfl rfl rfl (QW.field_ptr fo53_0 (.tmp rfl) rfl) ?_
    refine JL.store_box 1 ty3 (.tmp rfl) rfl (.tmp rfl) (by first | rfl | assumption) rfl rfl rfl rfl ?_
    refine JL.nil ?_
    refine thenQ.n ?_
    refine J.seq ?_
    refine J.region_lit ?_
    refine JL.q rfl rfl rfl (QW.move (.tmp rfl)) ?_
    refine JL.q rfl rfl rfl (QW.move (.tmp rfl)) ?_
    refine JL.q rfl rfl rfl (QW.nil_ptr (.tmp rfl)) ?_
    refine JL.q rfl rfl rfl (QW.field_ptr fo53_1 (.tmp rfl) rfl) ?_
    refine JL.q rfl rfl rfl (QW.load_box1 1 ty3 (.tmp rfl) rfl rfl) ?_
    refine JL.q rfl rfl rfl (QW.move (.tmp rfl)) ?_
    refine JL.q rfl rfl rfl (QW.max2 (.tmp rfl) (.tmp rfl)) ?_
    refine JL.q rfl rfl rfl (QW.nil_ptr (.tmp rfl)) ?_
    refine JL.q rfl rfl rfl (QW.field_ptr fo53_1 (.tmp rfl) rfl) ?_
    refine JL.store_box 1 ty3 (.tmp rfl) rfl (.tmp rfl) (by first | rfl | assumption) rfl rfl rfl rfl ?_
    refine JL.nil ?_
    refine thenQ.n ?_
    refine J.seq ?_
    refine J.region_lit ?_
    refine JL.q rfl rfl rfl (QW.field_ptr fo32_3 (.tmp rfl) rfl) ?_
    refine JL.q rfl rfl rfl (QW.load_box1 0 ty30 (.tmp rfl) rfl rfl) ?_
    refine JL.q rfl rfl rfl (by first | exact QW.len_sl sl30 (.tmp rfl) | exact QW.len_nil sl30 (.tmp rfl)) ?_
    refine JL.q rfl rfl rfl (QW.move .const) ?_
    refine JL.nil ?_
    refine thenQ.n ?_
    refine J.block ?_
    have hck : EX.chk (.mk o b t is) lev p = EX.chks is lev (p + 1) := by unfold EX.chk; rw [if_neg (by omega), if_neg (by omega), if_neg (by simp [hk19])]
    refine J.loopK (ι := Nat × Int × Int) [0, 2, 37, 38] (fun ⟨j, q, e⟩ => [(39, .c (.int .i64 (j : Int)))]) (fun ⟨j, q, e⟩ oo => List.set oo 1 (wk bw q e)) (fun ⟨j, q, e⟩ => j ≤ is.length ∧ EX.chks is lev (p + 1) = EX.chks (is.drop j) lev q ∧ max e (lev + EX.depths (is.drop j)) = max d (lev + EX.depths is) ∧ (0 ≤ q ∧ q ≤ 64 ∧ lev ≤ e)) (fun ⟨j, q, e⟩ => is.length - j) ⟨0, p + 1, if lev > d then lev else d⟩ (⟨Nat.zero_le _, rfl, by have := EX.depths_nonneg is; rw [List.drop_zero]; split <;> omega, by split <;> omega⟩) (Wk.re (.cons rfl (.refl _) (.cons rfl (.refl _) (.cons rfl (.refl _) (.cons rfl (.refl _) (.cons rfl (.refl _) .nil))))) (Reown.refl _) (fun _ h => by first | exact h | simp [h])) ?_
    intro ⟨j, q, e⟩ ⟨hj, hcs, hde, hq⟩
    refine J.conv (by (try simp only [id_eq, stepsO, List.map_cons, List.map_nil, valO, nthO, curO, mrg, List.reverse_cons, List.reverse_nil, List.nil_append, List.cons_append, List.append_nil, List.getElem?_cons_zero, List.getElem?_cons_succ, Option.map_some, Option.getD_some, List.set_cons_zero, List.set_cons_succ, AV.cellsOf, splice_zero, splice_succ, Nat.zero_add, Nat.reduceAdd]); rfl) ?_
    refine J.seq ?_
    refine J.region_lit ?_
    refine JL.q rfl rfl rfl (QW.lss (.tmp rfl) (.tmp rfl)) ?_
    refine JL.nil ?_
    refine thenQ.n ?_
    refine J.seq ?_
    refine J.cond (.tmp rfl) (fun c1 => ?_) (fun c1 => ?_)
    · skip
      have hlt : j < is.length := by simpa [EX.css_length] using c1
      refine J.skip ?_
      refine thenQ.n ?_
      refine J.seq ?_
      refine J.block ?_
      refine J.seq ?_
      refine J.region_lit ?_
      refine JL.q rfl rfl rfl (QW.index_sl sl30 ty32 rfl (.tmp rfl) (.tmp rfl) (by first | rfl | omega | (simp; done)) (by exact EX.css_getE _ hlt)) ?_
      refine JL.q rfl rfl rfl (by first | exact QW.load_ref ty32 (.tmp rfl) rfl rfl | exact QW.load_ref ty32 (.tmp rfl) (take_at0 (EX.cs_length _ _) rfl) (EX.cs_length _ _)) ?_
      refine JL.alloc z32 rfl rfl fun b7 => ?_
      first | refine JL.store_boxF 0 ty32 (.tmp rfl) rfl (.tmp rfl) (by first | rfl | assumption) (rfl) (rfl) rfl ?_ | refine JL.store_boxF 0 ty32 (.tmp rfl) rfl (.tmp rfl) (by first | rfl | assumption) (rfl) (EX.cs_length _ _) rfl ?_ | refine JL.store_boxF 0 ty32 (.tmp rfl) rfl (.tmp rfl) (by first | rfl | assumption) (EX.cs_length _ _) (rfl) rfl ?_ | refine JL.store_boxF 0 ty32 (.tmp rfl) rfl (.tmp rfl) (by first | rfl | assumption) (EX.cs_length _ _) (EX.cs_length _ _) rfl ?_ | refine JL.store_box 0 ty32 (.tmp rfl) rfl (.tmp rfl) (by first | rfl | assumption) rfl rfl rfl rfl ?_ | refine JL.store_box 0 ty32 (.tmp rfl) rfl (.tmp rfl) (by first | rfl | assumption) (EX.cs_length _ _) rfl rfl rfl ?_
      refine JL.nil ?_
      refine thenQ.n ?_
      refine J.region_lit ?_
      refine JL.q rfl rfl rfl (QW.move (.tmp rfl)) ?_
      refine JL.q rfl rfl rfl (by first | exact QW.load_box 0 ty32 (.tmp rfl) rfl rfl rfl | exact QW.load_box 0 ty32 (.tmp rfl) rfl (take_at (EX.cs_length _ _) rfl) (EX.cs_length _ _)) ?_
      refine JL.q rfl rfl rfl (QW.move (.tmp rfl)) ?_
      refine JL.q rfl rfl rfl (QW.add (.tmp rfl) .const (by first | exact w64n (by first | rfl | omega | (simp; done)) (by omega) | exact w64 (by omega) | rfl)) ?_
      refine JL.callPF [.k, .k, .p] gofn23 rfl Lent.nil (fun _ => (.cons (.tmp rfl) (.cons (.tmp rfl) (.cons (.tmp rfl) .nil)))) (ih (by first | exact Xc.self | exact Xc.mk) (hwi _ (List.getElem_mem _)) (by omega) (by omega) (EX.sz_get hn hlt)) (.inl rfl) (fun k47 x47 o47 h47 => ?_) (fun k47 => ?_)
      rotate_left
      · skip
        refine blkQ.p ?_
        refine thenQ.p ?_
        refine thenQ.p ?_
        refine blkQ.p ?_
        rw [EX.chks_cons hlt, if_pos k47] at hcs
        have he := hck.trans hcs
        exact ⟨_, selP [.k, .k] _, _, rfl, rfl, sel_perm [.k, .k] _, PanR.of (by rw [he]) k47⟩
      obtain ⟨rfl, rfl⟩ := h47
      refine JL.nil ?_
      refine blkQ.n ?_
      refine thenQ.n ?_
      refine J.region_lit ?_
      refine JL.q rfl rfl rfl (QW.add (.tmp rfl) .const (by first | exact w64n (by first | rfl | omega | (simp; done)) (by omega) | exact w64 (by omega) | rfl)) ?_
      refine JL.q rfl rfl rfl (QW.move (.tmp rfl)) ?_
      refine JL.nil ?_
      refine thenQ.n ?_
      have hb := EX.chk_bounds is[j] (lev + 1) q
      rw [EX.chks_cons hlt, if_neg (by simp [k47])] at hcs
      rw [EX.depths_cons hlt] at hde
      exact ⟨⟨j + 1, (EX.chk is[j] (lev + 1) q).2, max e (lev + 1 + is[j].depth - 1)⟩, ⟨hlt, hcs, by omega, by omega⟩, by show is.length - (j + 1) < is.length - j; omega, Wk.re (.cons rfl (.refl _) (.cons rfl (.refl _) (.cons rfl (.refl _) (.cons rfl (.refl _) (.cons rfl (.refl _) .nil))))) (Reown.dropN 1 _ rfl) (fun _ h => by first | exact h | simp [h])⟩
    · skip
      have hge : is.length ≤ j := by simpa [EX.css_length] using c1
      refine J.exit ?_
      refine thenQ.x ?_
      refine thenQ.x ?_
      refine blkQ.hit ?_
      obtain rfl : j = is.length := by omega
      simp only [List.drop_length, EX.chks, EX.depths] at hcs hde
      have he := hck.trans hcs
      exact ⟨_, selP [.k, .p] _, _, RetEv.none rfl , rfl, sel_perm [.k, .p] _, PanR.ret (by rw [he]) ⟨rfl, by rw [he]; unfold EX.depth; rw [show max d (lev + (1 + EX.depths is) - 1) = e by omega]; rfl⟩⟩
end Go.Proofs.Ytlppnhkjonmniaa.J

/- Walks: sizes, checks of expressions; are two one. -/
namespace Go.Proofs.Ytlppnhkjonmniaa.J
open Go Go.RowKit
set_option linter.unusedVariables false
set_option linter.unusedSimpArgs false
set_option maxRecDepth 10000
set_option maxHeartbeats 4000000
theorem zeroErrno (w : World) : (zeroValue 27).run Try.prog w = .ok (.int .i64 0) w := by kernel_rfl
def ibox (b : Nat) (n : Int) : Own := .box b [.c (.int .i64 n)]
theorem told_nil (c : Nat) (z : Int) : AC Try.prog 22 [ibox c z] [.c .nilIface, .c (.pointer (some ⟨c, 0, none⟩))] (RetR fun x o => x = .c (.bool false) ∧ o = [ibox c z]) := by
  refine AC.of_J Try.func22 rfl Try.ntmps22 rfl fun w0 A0 => ?_
  refine J.seq ?_
  refine J.region_lit ?_
  refine JL.q rfl rfl rfl (QW.assign .const) ?_
  refine JL.nil ?_
  refine thenQ.n ?_
  refine J.seq ?_
  refine J.region_lit ?_
  refine JL.q rfl rfl rfl (QW.move (.tmp rfl)) ?_
  refine JL.q rfl rfl rfl (QW.assert_nil ⟨_, Try.underlying27, by intro ms h; cases h⟩ zeroErrno (.tmp rfl)) ?_
  refine JL.q rfl rfl rfl (QW.move (.tmp rfl)) ?_
  refine JL.q rfl rfl rfl (QW.extract (.tmp rfl) rfl) ?_
  refine JL.q rfl rfl rfl (QW.extract (.tmp rfl) rfl) ?_
  refine JL.q rfl rfl rfl (QW.assign (.tmp rfl)) ?_
  refine JL.q rfl rfl rfl (QW.assign (.tmp rfl)) ?_
  refine JL.nil ?_
  refine thenQ.n ?_
  refine J.seq ?_
  refine J.seq ?_
  refine J.region_lit ?_
  refine JL.q rfl rfl rfl (QW.move (.tmp rfl)) ?_
  refine JL.nil ?_
  refine thenQ.n ?_
  refine J.cond (.tmp rfl) (fun c1 => absurd c1 (by simp)) (fun c1 => ?_)
  refine J.skip ?_
  refine thenQ.n ?_
  refine J.seq ?_
  refine J.region_lit ?_
  refine JL.q rfl rfl rfl (QW.move (.tmp rfl)) ?_
  refine JL.q rfl rfl rfl (QW.assign (.tmp rfl)) ?_
  refine JL.nil ?_
  refine thenQ.n ?_
  refine J.ret ?_
  exact ⟨_, selP [.p] _, _, RetEv.one rfl (REv.tmp rfl (.refl _)), rfl, sel_perm [.p] _, ⟨_, rfl, rfl, rfl⟩⟩
theorem told_hit (c : Nat) (z e : Int) : AC Try.prog 22 [ibox c z] [.c (errV e), .c (.pointer (some ⟨c, 0, none⟩))] (RetR fun x o => x = .c (.bool true) ∧ o = [ibox c e]) := by
  refine AC.of_J Try.func22 rfl Try.ntmps22 rfl fun w0 A0 => ?_
  refine J.seq ?_
  refine J.region_lit ?_
  refine JL.q rfl rfl rfl (QW.assign .const) ?_
  refine JL.nil ?_
  refine thenQ.n ?_
  refine J.seq ?_
  refine J.region_lit ?_
  refine JL.q rfl rfl rfl (QW.move (.tmp rfl)) ?_
  refine JL.q rfl rfl rfl (QW.assert_hit ⟨_, Try.underlying27, by intro ms h; cases h⟩ (.tmp rfl)) ?_
  refine JL.q rfl rfl rfl (QW.move (.tmp rfl)) ?_
  refine JL.q rfl rfl rfl (QW.extract (.tmp rfl) rfl) ?_
  refine JL.q rfl rfl rfl (QW.extract (.tmp rfl) rfl) ?_
  refine JL.q rfl rfl rfl (QW.assign (.tmp rfl)) ?_
  refine JL.q rfl rfl rfl (QW.assign (.tmp rfl)) ?_
  refine JL.nil ?_
  refine thenQ.n ?_
  refine J.seq ?_
  refine J.seq ?_
  refine J.region_lit ?_
  refine JL.q rfl rfl rfl (QW.move (.tmp rfl)) ?_
  refine JL.nil ?_
  refine thenQ.n ?_
  refine J.cond (.tmp rfl) (fun c1 => ?_) (fun c1 => absurd c1 (by simp))
  refine J.region_lit ?_
  refine JL.q rfl rfl rfl (QW.move (.tmp rfl)) ?_
  refine JL.q rfl rfl rfl (QW.move (.tmp rfl)) ?_
  refine JL.q rfl rfl rfl (QW.nil_ptr (.tmp rfl)) ?_
  refine JL.store_box 0 ty27 (.tmp rfl) rfl (.tmp rfl) (by first | rfl | assumption) rfl rfl rfl rfl ?_
  refine JL.nil ?_
  refine thenQ.n ?_
  refine J.seq ?_
  refine J.region_lit ?_
  refine JL.q rfl rfl rfl (QW.move (.tmp rfl)) ?_
  refine JL.q rfl rfl rfl (QW.assign (.tmp rfl)) ?_
  refine JL.nil ?_
  refine thenQ.n ?_
  refine J.ret ?_
  exact ⟨_, selP [.p] _, _, RetEv.one rfl (REv.tmp rfl (.refl _)), rfl, sel_perm [.p] _, ⟨_, rfl, rfl, rfl⟩⟩
theorem size1_ret (a b c : Nat) (x y z : Int) : DC Try.prog 21 [ibox a x, ibox c z, ibox b y] [.c (.pointer (some ⟨a, 0, none⟩)), .c (.pointer (some ⟨b, 0, none⟩)), .c (.pointer (some ⟨c, 0, none⟩))] .returning fun r u' o => r = .ret (.tup []) ∧ u' = .returning ∧ o = [ibox a x, ibox c z, ibox b y] := by
  refine DC.of_JD Try.func21 rfl Try.ntmps21 rfl fun w0 A0 => ?_
  refine JD.seq ?_
  refine JD.region_recover rfl rfl (.inl ⟨rfl, rfl, rfl⟩) rfl ?_
  refine JL.callRF [.p] gofn22 rfl Lent.nil (fun _ => (.cons (.tmp rfl) (.cons (.tmp rfl) .nil))) (told_nil _ _) (.inl rfl) fun x4 o4 h4 => ?_
  obtain ⟨rfl, rfl⟩ := h4
  refine JL.nil ?_
  refine thenD.nn ?_
  refine JD.of_J rfl ?_
  refine J.cond (.tmp rfl) (fun c1 => absurd c1 (by simp)) (fun c1 => ?_)
  refine J.skip ?_
  exact ⟨_, selP [.p, .p, .p] _, _, RetEv.none rfl , rfl, sel_perm [.p, .p, .p] _, ⟨rfl, rfl, rfl⟩⟩
theorem size1_pan (a b c : Nat) (x y z e : Int) : DC Try.prog 21 [ibox a x, ibox c z, ibox b y] [.c (.pointer (some ⟨a, 0, none⟩)), .c (.pointer (some ⟨b, 0, none⟩)), .c (.pointer (some ⟨c, 0, none⟩))] (.panicking [{ v := errV e, recovered := false }]) fun r u' o => r = .ret (.tup []) ∧ u' = .panicking [{ v := errV e, recovered := true }] ∧ o = [ibox a e, ibox c 0, ibox b 0] := by
  refine DC.of_JD Try.func21 rfl Try.ntmps21 rfl fun w0 A0 => ?_
  refine JD.seq ?_
  refine JD.region_recover rfl rfl (.inr ⟨[], rfl, rfl⟩) rfl ?_
  refine JL.callRF [.p] gofn22 rfl Lent.nil (fun _ => (.cons (.tmp rfl) (.cons (.tmp rfl) .nil))) (told_hit _ _ _) (.inl rfl) fun x4 o4 h4 => ?_
  obtain ⟨rfl, rfl⟩ := h4
  refine JL.nil ?_
  refine thenD.nn ?_
  refine JD.of_J rfl ?_
  refine J.cond (.tmp rfl) (fun c1 => ?_) (fun c1 => absurd c1 (by simp))
  refine J.region_lit ?_
  refine JL.store_box 2 ty3 (.tmp rfl) rfl .const (by first | rfl | assumption) rfl rfl rfl rfl ?_
  refine JL.store_box 1 ty3 (.tmp rfl) rfl .const (by first | rfl | assumption) rfl rfl rfl rfl ?_
  refine JL.nil ?_
  exact ⟨_, selP [.p, .p, .p] _, _, RetEv.none rfl , rfl, sel_perm [.p, .p, .p] _, ⟨rfl, rfl, rfl⟩⟩
def esizeAV (v : EX) : AV := .tup [.c (.int .i64 (if v.err = 0 then v.cnt else 0)), .c (.int .i64 (if v.err = 0 then v.depth else 0)), .c (.int .i64 v.err)]
theorem esizeAV_ok {v : EX} {n d : Int} (h : v.err = 0) (hn : n = v.cnt) (hd : d = v.depth) : esizeAV v = .tup [.c (.int .i64 n), .c (.int .i64 d), .c (.int .i64 0)] := by
  subst hn hd; simp [esizeAV, h]
theorem esizeAV_no {v : EX} {e : Int} (h : ¬ v.err = 0) (he : e = v.err) : esizeAV v = .tup [.c (.int .i64 0), .c (.int .i64 0), .c (.int .i64 e)] := by
  subst he; simp [esizeAV, h]
theorem esize_ok {fr : Bool} {v : EX} {ys : List AV} (hv : Xc fr v ys) (hw : v.wf) : Fn Try.prog 9 [.agg ys] (esizeAV v) := by
  subst hv
  refine AC.of_JD Try.func9 rfl Try.ntmps9 rfl fun w0 A0 => ?_
  refine J.seq ?_
  refine J.region_lit ?_
  refine JL.box_agg (.tmp rfl) rfl fun b1 => ?_
  refine JL.alloc z3 rfl rfl fun b2 => ?_
  refine JL.alloc z3 rfl rfl fun b3 => ?_
  refine JL.alloc z27 rfl rfl fun b4 => ?_
  refine JL.nil ?_
  refine thenQ.n ?_
  refine J.seq ?_
  refine J.region_lit ?_
  refine JL.q rfl rfl rfl (QW.mkFunc .nil (.cons (.tmp rfl) (.cons (.tmp rfl) (.cons (.tmp rfl) .nil)))) ?_
  refine JL.defer rfl (.tmp rfl) ?_
  refine JL.nil ?_
  refine thenQ.n ?_
  refine J.seq ?_
  refine J.region_lit ?_
  refine JL.alloc z53 rfl rfl fun b5 => ?_
  refine JL.nil ?_
  refine thenQ.n ?_
  refine J.seq ?_
  refine J.region_lit ?_
  refine JL.q rfl rfl rfl (by first | exact QW.load_box 4 ty32 (.tmp rfl) rfl rfl rfl | exact QW.load_box 4 ty32 (.tmp rfl) rfl (take_at (EX.cs_length _ _) rfl) (EX.cs_length _ _)) ?_
  refine JL.callPF [.p] gofn23 rfl Lent.nil (fun _ => (.cons (.tmp rfl) (.cons (.tmp rfl) (.cons .const .nil)))) (ewalk_n _ Xc.self hw (by omega) (by omega) (Nat.le_refl _)) (.inl rfl) (fun k8 x8 o8 h8 => ?_) (fun k8 => ?_)
  rotate_left
  · skip
    refine thenQ.p ?_
    exact ⟨_, _, [], [_, _, _], selP [.p, .p, .p] _, _, rfl, rfl, gofn21, sel_perm [.p, .p, .p] _, DC.mono (size1_pan _ _ _ _ _ _ _) fun r u' o ⟨h1, h2, h3⟩ => by subst h1 h2 h3; exact ⟨⟨_, rfl⟩, rfl, _, [], _, RetEv.three rfl (REv.cell1 2 ty3 rfl rfl rfl (.refl _)) (REv.cell1 1 ty3 rfl rfl rfl (.refl _)) (REv.cell1 0 ty27 rfl rfl rfl (.refl _)), List.Perm.refl _, (congrArg Res.ret (esizeAV_no k8 rfl)).symm, rfl⟩⟩
  obtain ⟨rfl, rfl⟩ := h8
  refine JL.nil ?_
  refine thenQ.n ?_
  refine J.seq ?_
  refine J.region_outK 5 1 (fun os_ ow_ x_ o_ => match os_ with | [] => (x_ = .c undef ∧ o_ = ow_.set 3 (ibox b2 (v.chk 1 0).2)) | _ => False) mixed (by kernel_rfl) (by kernel_rfl) (by kernel_rfl) rfl ?_
  refine OutK.quiet [] rfl rfl rfl (fun qs_ qv_ ql_ => (.q rfl (QW.field_ptr fo53_0 (.tmp rfl) rfl))) ?_
  refine OutK.quiet [9] rfl rfl rfl (fun qs_ qv_ ql_ => by
      rcases qs_ with _ | ⟨⟨y0, p0⟩, qs_⟩
      · skip
        exact (.q rfl (QW.load_box1 0 ty3 (.tmp rfl) rfl rfl))
      rcases qs_ with _ | ⟨⟨y1, p1⟩, qs_⟩
      · skip
        obtain ⟨hr0, _⟩ := qv_
        obtain ⟨rfl, rfl⟩ := hr0
        exact (.q rfl (QW.load_box1 0 ty3 (.tmp rfl) rfl rfl))
      exact absurd ql_ (by simp)) ?_
  refine OutK.quiet [] rfl rfl rfl (fun qs_ qv_ ql_ => (.q rfl (QW.field_ptr fo53_1 (.tmp rfl) rfl))) ?_
  refine OutK.quiet [11] rfl rfl rfl (fun qs_ qv_ ql_ => by
      rcases qs_ with _ | ⟨⟨y0, p0⟩, qs_⟩
      · skip
        exact (.q rfl (QW.load_box1 0 ty3 (.tmp rfl) rfl rfl))
      rcases qs_ with _ | ⟨⟨y1, p1⟩, qs_⟩
      · skip
        obtain ⟨hr0, _⟩ := qv_
        obtain ⟨rfl, rfl⟩ := hr0
        exact (.q rfl (QW.load_box1 0 ty3 (.tmp rfl) rfl rfl))
      exact absurd ql_ (by simp)) ?_
  refine OutK.store [10] rfl (fun qs_ ow x o h ql_ => by
      obtain rfl : qs_ = [] := List.length_eq_zero_iff.1 (by simpa using ql_)
      exact h.1) rfl rfl rfl (fun qs_ qv_ ql_ => by
      obtain rfl : qs_ = [] := List.length_eq_zero_iff.1 ql_
      exact LStep.toR rfl (LStep.store_box 3 ty3 (.tmp rfl) rfl (.tmp rfl) (by first | rfl | assumption) rfl rfl rfl rfl) ⟨rfl, rfl⟩) ?_
  refine .nil fun qs_ qv_ ql_ => ?_
  obtain ⟨⟨y0, p0⟩, qs_, rfl⟩ : ∃ p t, qs_ = p :: t := by (cases qs_ with | nil => simp at ql_ | cons p t => exact ⟨p, t, rfl⟩)
  obtain rfl : qs_ = [] := List.length_eq_zero_iff.1 (by simpa using ql_)
  obtain ⟨hr0, _⟩ := qv_
  obtain ⟨rfl, rfl⟩ := hr0
  refine JL.conv (by (try simp only [id_eq, stepsO, List.map_cons, List.map_nil, valO, nthO, curO, mrg, List.reverse_cons, List.reverse_nil, List.nil_append, List.cons_append, List.append_nil, List.getElem?_cons_zero, List.getElem?_cons_succ, Option.map_some, Option.getD_some, List.set_cons_zero, List.set_cons_succ, AV.cellsOf, splice_zero, splice_succ, Nat.zero_add, Nat.reduceAdd]); rfl) ?_
  refine JL.store_box 2 ty3 (.tmp rfl) rfl (.tmp rfl) (by first | rfl | assumption) rfl rfl rfl rfl ?_
  refine JL.store_box 1 ty27 (.tmp rfl) rfl .const (by first | rfl | assumption) rfl rfl rfl rfl ?_
  refine JL.nil ?_
  refine thenQ.n ?_
  refine J.ret ?_
  exact ⟨_, _, [], [_, _, _], selP [.k, .p, .p, .p] _, _, rfl, rfl, gofn21, sel_perm [.k, .p, .p, .p] _, DC.mono (size1_ret _ _ _ _ _ _) fun r u' o ⟨h1, h2, h3⟩ => by subst h1 h2 h3; exact ⟨⟨_, rfl⟩, rfl, _, [], _, RetEv.three rfl (REv.cell1 2 ty3 rfl rfl rfl (.refl _)) (REv.cell1 1 ty3 rfl rfl rfl (.refl _)) (REv.cell1 0 ty27 rfl rfl rfl (.refl _)), List.Perm.refl _, (congrArg Res.ret (esizeAV_ok k8 rfl (by have := EX.chk_depth v 1 0 k8; omega))).symm, rfl⟩⟩
theorem echeck_ok {fr : Bool} {v : EX} {ys : List AV} (hv : Xc fr v ys) (hw : v.wf) : Fn Try.prog 25 [.agg ys] (.c (.int .i64 v.err)) := by
  subst hv
  refine AC.of_J Try.func25 rfl Try.ntmps25 rfl fun w0 A0 => ?_
  refine J.seq ?_
  refine J.region_lit ?_
  refine JL.box_agg (.tmp rfl) rfl fun b1 => ?_
  refine JL.q rfl rfl rfl (QW.assign .const) ?_
  refine JL.nil ?_
  refine thenQ.n ?_
  refine J.seq ?_
  refine J.region_lit ?_
  refine JL.q rfl rfl rfl (by first | exact QW.load_box 0 ty32 (.tmp rfl) rfl rfl rfl | exact QW.load_box 0 ty32 (.tmp rfl) rfl (take_at (EX.cs_length _ _) rfl) (EX.cs_length _ _)) ?_
  refine JL.q rfl rfl rfl (QW.call gofn9 (.cons (.tmp rfl) .nil) (esize_ok (by first | exact Xc.self | exact Xc.mk) (by assumption))) ?_
  refine JL.q rfl rfl rfl (QW.move (.tmp rfl)) ?_
  refine JL.q rfl rfl rfl (QW.extract (.tmp rfl) rfl) ?_
  refine JL.q rfl rfl rfl (QW.extract (.tmp rfl) rfl) ?_
  refine JL.q rfl rfl rfl (QW.extract (.tmp rfl) rfl) ?_
  refine JL.q rfl rfl rfl (QW.assign (.tmp rfl)) ?_
  refine JL.q rfl rfl rfl (QW.assign (.tmp rfl)) ?_
  refine JL.q rfl rfl rfl (QW.assign (.tmp rfl)) ?_
  refine JL.nil ?_
  refine thenQ.n ?_
  refine J.seq ?_
  refine J.region_lit ?_
  refine JL.q rfl rfl rfl (QW.move (.tmp rfl)) ?_
  refine JL.q rfl rfl rfl (QW.assign (.tmp rfl)) ?_
  refine JL.nil ?_
  refine thenQ.n ?_
  refine J.ret ?_
  exact ⟨_, selP [.k] _, _, RetEv.one rfl (REv.tmp rfl (.refl _)), rfl, sel_perm [.k] _, ⟨rfl, rfl⟩⟩
end Go.Proofs.Ytlppnhkjonmniaa.J

/- Walks: are two expressions one; copies; octets that are copied, spoilt, compared. -/
namespace Go.Proofs.Ytlppnhkjonmniaa.J
open Go Go.RowKit
set_option linter.unusedVariables false
set_option linter.unusedSimpArgs false
set_option maxRecDepth 10000
set_option maxHeartbeats 4000000
theorem esames_drop {a b : List EX} {k : Nat} (ha : k < a.length) (hb : k < b.length) : EX.sames (a.drop k) (b.drop k) = (a[k].same b[k] && EX.sames (a.drop (k + 1)) (b.drop (k + 1))) := by
  rw [List.drop_eq_getElem_cons ha, List.drop_eq_getElem_cons hb, EX.sames]
theorem esames_len : ∀ {a b : List EX}, EX.sames a b = true → a.length = b.length
  | [], [], _ => rfl
  | x :: r, y :: s, h => by simp only [EX.sames, Bool.and_eq_true] at h; simp [esames_len h.2]
  | [], _ :: _, h => by simp [EX.sames] at h
  | _ :: _, [], h => by simp [EX.sames] at h
theorem EX.same_mk {o o' : Int} {b b' : Nat} {t t' : Str} {l l' : List EX} : (EX.mk o b t l).same (EX.mk o' b' t' l') = (o == o' && b == b' && t == t' && EX.sames l l') := by simp [EX.same]
theorem elalike_n  : ∀ (n : Nat) {v u : EX} {ys zs : List AV} {fr fr2 : Bool}, Xc fr v ys → Xc fr2 u zs → v.wf → u.wf → v.sz ≤ n →
    Fn Try.prog 15 [.agg ys, .agg zs] (.c (.int .i64 (if v.same u then 0 else 1))) := by
  intro n
  induction n with
  | zero => intro v u ys zs fr fr2 hv hu hw hw2 h; exact absurd h (by have := EX.sz_pos v; omega)
  | succ n ih =>
    intro v u ys zs fr fr2 hv hu hw hw2 hn
    obtain ⟨o, b, t, is⟩ := v
    obtain ⟨o', b', t', is'⟩ := u
    subst hv hu
    obtain ⟨-, -, -, hi80, hwi⟩ := hw.inv
    obtain ⟨-, -, -, hi80', hwi'⟩ := hw2.inv
    have h1 : is.length ≤ 9223372036854775806 := by unfold reach at hi80; omega
    have h2 : is'.length ≤ 9223372036854775806 := by unfold reach at hi80'; omega
    refine AC.of_J Try.func15 rfl Try.ntmps15 rfl fun w0 A0 => ?_
    refine J.seq ?_
    refine J.region_lit ?_
    refine JL.box_agg (.tmp rfl) rfl fun b2 => ?_
    refine JL.box_agg (.tmp rfl) rfl fun b3 => ?_
    refine JL.q rfl rfl rfl (QW.assign .const) ?_
    refine JL.nil ?_
    refine thenQ.n ?_
    refine J.seq ?_
    refine J.seq ?_
    refine J.region_lit ?_
    refine JL.q rfl rfl rfl (QW.field_ptr fo32_0 (.tmp rfl) rfl) ?_
    refine JL.q rfl rfl rfl (QW.load_box1 1 ty3 (.tmp rfl) rfl rfl) ?_
    refine JL.q rfl rfl rfl (QW.field_ptr fo25_0 (.tmp rfl) rfl) ?_
    refine JL.q rfl rfl rfl (QW.load_box1 0 ty3 (.tmp rfl) rfl rfl) ?_
    refine JL.q rfl rfl rfl (QW.neq (.tmp rfl) (.tmp rfl)) ?_
    refine JL.q rfl rfl rfl (QW.move (.tmp rfl)) ?_
    refine JL.g rfl rfl rfl rfl rfl (fun hg => (QW.field_ptr fo32_1 (.tmp rfl) rfl)) ?_
    refine JL.g rfl rfl rfl rfl rfl (fun hg => (QW.load_box1 1 ty22 (.when rfl hg) rfl rfl)) ?_
    refine JL.g rfl rfl rfl rfl rfl (fun hg => (QW.field_ptr fo25_1 (.tmp rfl) rfl)) ?_
    refine JL.g rfl rfl rfl rfl rfl (fun hg => (QW.load_box1 0 ty22 (.when rfl hg) rfl rfl)) ?_
    refine JL.g rfl rfl rfl rfl rfl (fun hg => (QW.neq (.when rfl hg) (.when rfl hg))) ?_
    refine JL.q rfl rfl rfl (QW.pick_or (.tmp rfl) (.tmp rfl)) ?_
    refine JL.q rfl rfl rfl (QW.move (.tmp rfl)) ?_
    refine JL.g rfl rfl rfl rfl rfl (fun hg => (QW.field_ptr fo32_2 (.tmp rfl) rfl)) ?_
    refine JL.g rfl rfl rfl rfl rfl (fun hg => (QW.load_box1 1 ty9 (.when rfl hg) rfl rfl)) ?_
    refine JL.g rfl rfl rfl rfl rfl (fun hg => (QW.field_ptr fo25_2 (.tmp rfl) rfl)) ?_
    refine JL.g rfl rfl rfl rfl rfl (fun hg => (QW.load_box1 0 ty9 (.when rfl hg) rfl rfl)) ?_
    refine JL.g rfl rfl rfl rfl rfl (fun hg => (QW.neq_s (.when rfl hg) (.when rfl hg))) ?_
    refine JL.q rfl rfl rfl (QW.pick_or (.tmp rfl) (.tmp rfl)) ?_
    refine JL.q rfl rfl rfl (QW.move (.tmp rfl)) ?_
    refine JL.g rfl rfl rfl rfl rfl (fun hg => (QW.field_ptr fo32_3 (.tmp rfl) rfl)) ?_
    refine JL.g rfl rfl rfl rfl rfl (fun hg => (QW.load_box1 1 ty30 (.when rfl hg) rfl rfl)) ?_
    refine JL.g rfl rfl rfl rfl rfl (fun hg => (by first | exact QW.len_slE sl30 (.when rfl hg) (EX.css_length _ _) | exact QW.len_sl sl30 (.when rfl hg) | exact QW.len_nil sl30 (.when rfl hg))) ?_
    refine JL.g rfl rfl rfl rfl rfl (fun hg => (QW.field_ptr fo25_3 (.tmp rfl) rfl)) ?_
    refine JL.g rfl rfl rfl rfl rfl (fun hg => (QW.load_box1 0 ty23 (.when rfl hg) rfl rfl)) ?_
    refine JL.g rfl rfl rfl rfl rfl (fun hg => (by first | exact QW.len_slE sl23 (.when rfl hg) (EX.css_length _ _) | exact QW.len_sl sl23 (.when rfl hg) | exact QW.len_nil sl23 (.when rfl hg))) ?_
    refine JL.g rfl rfl rfl rfl rfl (fun hg => (QW.neq (.when rfl hg) (.when rfl hg))) ?_
    refine JL.q rfl rfl rfl (QW.pick_or (.tmp rfl) (.tmp rfl)) ?_
    refine JL.nil ?_
    refine thenQ.n ?_
    refine J.cond (.tmp rfl) (fun c1 => ?_) (fun c1 => ?_)
    · skip
      skip
      refine J.seq ?_
      refine J.region_lit ?_
      refine JL.q rfl rfl rfl (QW.assign .const) ?_
      refine JL.nil ?_
      refine thenQ.n ?_
      refine J.ret ?_
      refine thenQ.r ?_
      have hf : (EX.mk o b t is).same (EX.mk o' b' t' is') = false := by
        rw [EX.same_mk]
        cases hs : EX.sames is is' with
        | false => simp
        | true =>
          have := esames_len hs
          simp [EX.css_length] at c1 ⊢
          intro e1 e2 e3
          subst e1 e2 e3
          simp at c1
          omega
      exact ⟨_, selP [.k, .k] _, _, RetEv.one rfl (REv.tmp rfl (.refl _)), rfl, sel_perm [.k, .k] _, ⟨by rw [hf]; rfl, rfl⟩⟩
    · skip
      simp [EX.css_length] at c1
      obtain ⟨⟨⟨e1, e2⟩, e3⟩, e5⟩ := c1
      have hl : is.length = is'.length := by omega
      refine J.skip ?_
      refine thenQ.n ?_
      refine J.seq ?_
      refine J.seq ?_
      refine J.region_lit ?_
      refine JL.q rfl rfl rfl (QW.assign .const) ?_
      refine JL.nil ?_
      refine thenQ.n ?_
      refine J.block ?_
      refine J.loopK (ι := Nat) [2, 3] (fun j => [(5, .c (.int .i64 (j : Int)))]) (fun _ oo => oo) (fun j => j ≤ is.length ∧ EX.sames is is' = EX.sames (is.drop j) (is'.drop j)) (fun j => is.length - j) 0 (⟨Nat.zero_le _, rfl⟩) (Wk.re (.cons rfl (.refl _) (.cons rfl (.refl _) (.cons rfl (.refl _) .nil))) (Reown.refl _) (fun _ h => by first | exact h | simp [h])) ?_
      intro j ⟨hj, hs⟩
      refine J.conv (by (try simp only [id_eq, stepsO, List.map_cons, List.map_nil, valO, nthO, curO, mrg, List.reverse_cons, List.reverse_nil, List.nil_append, List.cons_append, List.append_nil, List.getElem?_cons_zero, List.getElem?_cons_succ, Option.map_some, Option.getD_some, List.set_cons_zero, List.set_cons_succ, AV.cellsOf, splice_zero, splice_succ, Nat.zero_add, Nat.reduceAdd]); rfl) ?_
      refine J.seq ?_
      refine J.seq ?_
      refine J.region_lit ?_
      refine JL.q rfl rfl rfl (QW.move (.tmp rfl)) ?_
      refine JL.q rfl rfl rfl (QW.field_ptr fo32_3 (.tmp rfl) rfl) ?_
      refine JL.q rfl rfl rfl (QW.load_box1 1 ty30 (.tmp rfl) rfl rfl) ?_
      refine JL.q rfl rfl rfl (by first | exact QW.len_slE sl30 (.tmp rfl) (EX.css_length _ _) | exact QW.len_sl sl30 (.tmp rfl) | exact QW.len_nil sl30 (.tmp rfl)) ?_
      refine JL.q rfl rfl rfl (QW.lss (.tmp rfl) (.tmp rfl)) ?_
      refine JL.nil ?_
      refine thenQ.n ?_
      refine J.cond (.tmp rfl) (fun c2 => ?_) (fun c2 => ?_)
      · skip
        have hlt : j < is.length := by simpa [EX.css_length] using c2
        have hlt2 : j < is'.length := by omega
        refine J.skip ?_
        refine thenQ.n ?_
        refine J.seq ?_
        refine J.block ?_
        refine J.seq ?_
        refine J.regionX mixed ?_
        refine JX.f 0 [] rfl rfl rfl rfl rfl rfl rfl rfl (fun ow_ => (.q rfl (QW.field_ptr fo32_3 (.tmp rfl) rfl))) ?_
        refine JX.o 1 1 [41] rfl rfl rfl rfl rfl rfl rfl rfl rfl (fun ow_ ho_ => (.q rfl (QW.load_box1 1 ty30 (.tmp rfl) ho_ rfl))) ?_
        refine JX.f 2 [] rfl rfl rfl rfl rfl rfl rfl rfl (fun ow_ => (.q rfl (QW.move (.tmp rfl)))) ?_
        refine JX.f 3 [42, 43] rfl rfl rfl rfl rfl rfl rfl rfl (fun ow_ => (.q rfl (QW.index_sl sl30 ty32 rfl (.tmp rfl) (.tmp rfl) (by first | rfl | omega | (simp; done)) (by first | exact EX.css_getE _ hlt | exact EX.css_getE _ hlt2)))) ?_
        refine JX.f 4 [44] rfl rfl rfl rfl rfl rfl rfl rfl (fun ow_ => (.q rfl (by first | exact QW.load_ref ty32 (.tmp rfl) rfl rfl | exact QW.load_ref ty32 (.tmp rfl) (take_at0 (EX.cs_length _ _) rfl) (EX.cs_length _ _)))) ?_
        refine JX.f 5 [] rfl rfl rfl rfl rfl rfl rfl rfl (fun ow_ => (.q rfl (QW.field_ptr fo25_3 (.tmp rfl) rfl))) ?_
        refine JX.o 6 0 [46] rfl rfl rfl rfl rfl rfl rfl rfl rfl (fun ow_ ho_ => (.q rfl (QW.load_box1 0 ty23 (.tmp rfl) ho_ rfl))) ?_
        refine JX.f 7 [] rfl rfl rfl rfl rfl rfl rfl rfl (fun ow_ => (.q rfl (QW.move (.tmp rfl)))) ?_
        refine JX.f 8 [47, 48] rfl rfl rfl rfl rfl rfl rfl rfl (fun ow_ => (.q rfl (QW.index_sl sl23 ty25 rfl (.tmp rfl) (.tmp rfl) (by first | rfl | omega | (simp; done)) (by first | exact EX.css_getE _ hlt | exact EX.css_getE _ hlt2)))) ?_
        refine JX.f 9 [49] rfl rfl rfl rfl rfl rfl rfl rfl (fun ow_ => (.q rfl (by first | exact QW.load_ref ty25 (.tmp rfl) rfl rfl | exact QW.load_ref ty25 (.tmp rfl) (take_at0 (EX.cs_length _ _) rfl) (EX.cs_length _ _)))) ?_
        refine JX.f 10 [45, 50] rfl rfl rfl rfl rfl rfl rfl rfl (fun ow_ => (.q rfl (QW.call gofn15 (.cons (.tmp rfl) (.cons (.tmp rfl) .nil)) (ih Xc.self Xc.self (hwi _ (List.getElem_mem _)) (hwi' _ (List.getElem_mem _)) (EX.sz_get hn hlt))))) ?_
        refine JX.f 11 [51] rfl rfl rfl rfl rfl rfl rfl rfl (fun ow_ => (.q rfl (QW.neq (.tmp rfl) .const))) ?_
        refine JX.fin (by kernel_rfl) (by kernel_rfl) fun bs_ => ?_
        refine QX.conv (by (try simp only [vlF, bxF, tkM, lvM, Flt.val, Flt.bx, List.append_assoc, List.take_succ_cons, List.take_zero, List.append_eq, id_eq, stepsO, List.map_cons, List.map_nil, valO, nthO, curO, mrg, List.reverse_cons, List.reverse_nil, List.nil_append, List.cons_append, List.append_nil, List.getElem?_cons_zero, List.getElem?_cons_succ, Option.map_some, Option.getD_some, List.set_cons_zero, List.set_cons_succ, AV.cellsOf, splice_zero, splice_succ, Nat.zero_add, Nat.reduceAdd]); rfl) ?_
        refine thenQ.n ?_
        refine J.cond (.tmp rfl) (fun c3 => ?_) (fun c3 => ?_)
        · skip
          skip
          refine J.seq ?_
          refine J.region_lit ?_
          refine JL.q rfl rfl rfl (QW.assign .const) ?_
          refine JL.nil ?_
          refine thenQ.n ?_
          refine J.ret ?_
          refine blkQ.r ?_
          refine thenQ.r ?_
          refine thenQ.r ?_
          refine blkQ.r ?_
          refine thenQ.r ?_
          have c3 : (is[j]).same is'[j] = false := by simpa using c3
          have hf : (EX.mk o b t is).same (EX.mk o' b' t' is') = false := by rw [EX.same_mk, hs, esames_drop hlt hlt2, c3]; simp
          exact ⟨_, selP [.k, .k] _, _, RetEv.one rfl (REv.tmp rfl (.refl _)), rfl, sel_perm [.k, .k] _, ⟨by rw [hf]; rfl, rfl⟩⟩
        · skip
          skip
          refine J.skip ?_
          refine blkQ.n ?_
          refine thenQ.n ?_
          refine J.region_lit ?_
          refine JL.q rfl rfl rfl (QW.move (.tmp rfl)) ?_
          refine JL.q rfl rfl rfl (QW.add (.tmp rfl) .const (by first | exact w64n (by first | rfl | omega | (simp; done)) (by omega) | exact w64 (by omega) | rfl)) ?_
          refine JL.q rfl rfl rfl (QW.assign (.tmp rfl)) ?_
          refine JL.nil ?_
          refine thenQ.n ?_
          have c3 : (is[j]).same is'[j] = true := by simpa using c3
          rw [esames_drop hlt hlt2, c3, Bool.true_and] at hs
          exact ⟨j + 1, ⟨hlt, hs⟩, by omega, Wk.re (.cons rfl (.refl _) (.cons rfl (.refl _) (.cons rfl (.refl _) .nil))) (Reown.refl _) (fun _ h => by first | exact h | simp [h])⟩
      · skip
        have hge : is.length ≤ j := by simpa [EX.css_length] using c2
        refine J.exit ?_
        refine thenQ.x ?_
        refine thenQ.x ?_
        refine blkQ.hit ?_
        refine thenQ.n ?_
        refine J.seq ?_
        refine J.region_lit ?_
        refine JL.q rfl rfl rfl (QW.assign .const) ?_
        refine JL.nil ?_
        refine thenQ.n ?_
        refine J.ret ?_
        have hz : EX.sames is is' = true := by
          rw [hs, List.drop_of_length_le hge, List.drop_of_length_le (by omega), EX.sames]
        have hf : (EX.mk o b t is).same (EX.mk o' b' t' is') = true := by rw [EX.same_mk, hz, e1, e3, show b = b' by omega]; simp
        exact ⟨_, selP [.k, .k] _, _, RetEv.one rfl (REv.tmp rfl (.refl _)), rfl, sel_perm [.k, .k] _, ⟨by rw [hf]; rfl, rfl⟩⟩
theorem elalike_ok {v u : EX} {ys zs : List AV} {fr fr2 : Bool} (hv : Xc fr v ys) (hu : Xc fr2 u zs) (hw : v.wf) (hw2 : u.wf) : Fn Try.prog 15 [.agg ys, .agg zs] (.c (.int .i64 (if v.same u then 0 else 1))) := elalike_n _ hv hu hw hw2 (Nat.le_refl _)
theorem num14_ok (n : Int) : Fn Try.prog 11 [.c (.int .i64 n)] (.c (.int .i64 n)) := by
  refine AC.of_J Try.func11 rfl Try.ntmps11 rfl fun w0 A0 => ?_
  refine J.seq ?_
  refine J.region_lit ?_
  refine JL.q rfl rfl rfl (QW.assign .const) ?_
  refine JL.nil ?_
  refine thenQ.n ?_
  refine J.seq ?_
  refine J.region_lit ?_
  refine JL.q rfl rfl rfl (QW.move (.tmp rfl)) ?_
  refine JL.q rfl rfl rfl (QW.assign (.tmp rfl)) ?_
  refine JL.nil ?_
  refine thenQ.n ?_
  refine J.ret ?_
  exact ⟨_, selP [] _, _, RetEv.one rfl (REv.tmp rfl (.refl _)), rfl, sel_perm [] _, ⟨rfl, rfl⟩⟩
theorem of14_n  : ∀ (n : Nat) {v : EX} {ys : List AV} {fr : Bool}, Xc fr v ys → v.wf → v.sz ≤ n → AC Try.prog 10 [] [.agg ys] (RetR (CopyE v)) := by
  intro n
  induction n with
  | zero => intro v ys fr hv hw h; exact absurd h (by have := EX.sz_pos v; omega)
  | succ n ih =>
    intro v ys fr hv hw hn
    obtain ⟨o, b, t, is⟩ := v
    subst hv
    obtain ⟨-, -, -, hi80, hwi⟩ := hw.inv
    have h1 : is.length ≤ 9223372036854775806 := by unfold reach at hi80; omega
    refine AC.of_J Try.func10 rfl Try.ntmps10 rfl fun w0 A0 => ?_
    refine J.seq ?_
    refine J.region_lit ?_
    refine JL.box_agg (.tmp rfl) rfl fun b1 => ?_
    refine JL.alloc z32 rfl rfl fun b2 => ?_
    refine JL.nil ?_
    refine thenQ.n ?_
    refine J.seq ?_
    refine J.region_lit ?_
    refine JL.q rfl rfl rfl (QW.field_ptr fo25_0 (.tmp rfl) rfl) ?_
    refine JL.q rfl rfl rfl (QW.load_box1 1 ty3 (.tmp rfl) rfl rfl) ?_
    refine JL.q rfl rfl rfl (QW.field_ptr fo25_1 (.tmp rfl) rfl) ?_
    refine JL.q rfl rfl rfl (QW.load_box1 1 ty22 (.tmp rfl) rfl rfl) ?_
    refine JL.q rfl rfl rfl (QW.field_ptr fo25_2 (.tmp rfl) rfl) ?_
    refine JL.q rfl rfl rfl (QW.load_box1 1 ty9 (.tmp rfl) rfl rfl) ?_
    refine JL.q rfl rfl rfl (QW.build (idx := [0, 1, 2]) pl32 z32 rfl (.cons (.tmp rfl) (.cons (.tmp rfl) (.cons (.tmp rfl) .nil))) rfl rfl rfl rfl) ?_
    refine JL.alloc z32 rfl rfl fun b3 => ?_
    first | refine JL.store_boxF 0 ty32 (.tmp rfl) rfl (.tmp rfl) (by first | rfl | assumption) (rfl) (rfl) rfl ?_ | refine JL.store_boxF 0 ty32 (.tmp rfl) rfl (.tmp rfl) (by first | rfl | assumption) (rfl) (EX.cs_length _ _) rfl ?_ | refine JL.store_boxF 0 ty32 (.tmp rfl) rfl (.tmp rfl) (by first | rfl | assumption) (EX.cs_length _ _) (rfl) rfl ?_ | refine JL.store_boxF 0 ty32 (.tmp rfl) rfl (.tmp rfl) (by first | rfl | assumption) (EX.cs_length _ _) (EX.cs_length _ _) rfl ?_ | refine JL.store_box 0 ty32 (.tmp rfl) rfl (.tmp rfl) (by first | rfl | assumption) rfl rfl rfl rfl ?_ | refine JL.store_box 0 ty32 (.tmp rfl) rfl (.tmp rfl) (by first | rfl | assumption) (EX.cs_length _ _) rfl rfl rfl ?_
    refine JL.nil ?_
    refine thenQ.n ?_
    refine J.seq ?_
    refine J.seq ?_
    refine J.region_lit ?_
    refine JL.q rfl rfl rfl (QW.assign .const) ?_
    refine JL.nil ?_
    refine thenQ.n ?_
    refine J.block ?_
    refine J.reown (Reown.nilArrE eEX _) ?_
    refine J.reown (Reown.nilGrpE _) ?_
    refine J.loopK (ι := Nat × Value × List (List AV) × List Value × Own) [1, 2, 3] (fun ⟨j, v, cs, us, g⟩ => [(4, .c (.int .i64 (j : Int)))]) (fun ⟨j, v, cs, us, g⟩ oo => List.set (List.set (List.set oo 0 (.box b3 ((EX.mk o b t is).raw v))) 3 (.arr v eEX cs)) 4 (g)) (fun ⟨j, v, cs, us, g⟩ => j ≤ is.length ∧ EKids (is.take j) cs us g) (fun ⟨j, v, cs, us, g⟩ => is.length - j) ⟨0, .slice none 0 0, [], [], .grp []⟩ (⟨Nat.zero_le _, .nil⟩) (Wk.re (.cons rfl (.refl _) (.cons rfl (.refl _) (.cons rfl (.refl _) (.cons rfl (.refl _) .nil)))) (Reown.refl _) (fun _ h => by first | exact h | simp [h])) ?_
    intro ⟨j, v, cs, us, g⟩ ⟨hj, hK⟩
    refine J.conv (by (try simp only [id_eq, stepsO, List.map_cons, List.map_nil, valO, nthO, curO, mrg, List.reverse_cons, List.reverse_nil, List.nil_append, List.cons_append, List.append_nil, List.getElem?_cons_zero, List.getElem?_cons_succ, Option.map_some, Option.getD_some, List.set_cons_zero, List.set_cons_succ, AV.cellsOf, splice_zero, splice_succ, Nat.zero_add, Nat.reduceAdd]); rfl) ?_
    refine J.seq ?_
    refine J.seq ?_
    refine J.region_lit ?_
    refine JL.q rfl rfl rfl (QW.move (.tmp rfl)) ?_
    refine JL.q rfl rfl rfl (QW.field_ptr fo25_3 (.tmp rfl) rfl) ?_
    refine JL.q rfl rfl rfl (QW.load_box1 2 ty23 (.tmp rfl) rfl rfl) ?_
    refine JL.q rfl rfl rfl (by first | exact QW.len_slE sl23 (.tmp rfl) (EX.css_length _ _) | exact QW.len_sl sl23 (.tmp rfl) | exact QW.len_nil sl23 (.tmp rfl)) ?_
    refine JL.q rfl rfl rfl (QW.lss (.tmp rfl) (.tmp rfl)) ?_
    refine JL.nil ?_
    refine thenQ.n ?_
    refine J.cond (.tmp rfl) (fun c1 => ?_) (fun c1 => ?_)
    · skip
      have hlt : j < is.length := by simpa [EX.css_length] using c1
      refine J.skip ?_
      refine thenQ.n ?_
      refine J.seq ?_
      refine J.block ?_
      refine J.regionX mixed ?_
      refine JX.f 0 [] rfl rfl rfl rfl rfl rfl rfl rfl (fun ow_ => (.q rfl (QW.field_ptr fo32_3 (.tmp rfl) rfl))) ?_
      refine JX.o 1 0 [19] rfl rfl rfl rfl rfl rfl rfl rfl rfl (fun ow_ ho_ => (.q rfl (QW.load_box1 0 ty30 (.tmp rfl) ho_ rfl))) ?_
      refine JX.f 2 [] rfl rfl rfl rfl rfl rfl rfl rfl (fun ow_ => (.q rfl (QW.field_ptr fo25_3 (.tmp rfl) rfl))) ?_
      refine JX.o 3 2 [21] rfl rfl rfl rfl rfl rfl rfl rfl rfl (fun ow_ ho_ => (.q rfl (QW.load_box1 2 ty23 (.tmp rfl) ho_ rfl))) ?_
      refine JX.f 4 [] rfl rfl rfl rfl rfl rfl rfl rfl (fun ow_ => (.q rfl (QW.move (.tmp rfl)))) ?_
      refine JX.f 5 [22, 23] rfl rfl rfl rfl rfl rfl rfl rfl (fun ow_ => (.q rfl (QW.index_sl sl23 ty25 rfl (.tmp rfl) (.tmp rfl) (by first | rfl | omega | (simp; done)) (by exact EX.css_getE _ hlt)))) ?_
      refine JX.f 6 [24] rfl rfl rfl rfl rfl rfl rfl rfl (fun ow_ => (.q rfl (by first | exact QW.load_ref ty25 (.tmp rfl) rfl rfl | exact QW.load_ref ty25 (.tmp rfl) (take_at0 (EX.cs_length _ _) rfl) (EX.cs_length _ _)))) ?_
      refine JX.one 7 [true, true, true, true, true, false, false] rfl (by kernel_rfl) (by kernel_rfl) rfl rfl (by kernel_rfl) rfl fun bs7_ pe_ ex_ => ?_
      refine JL.conv (by (try simp only [vlF, bxF, tkM, lvM, Flt.val, Flt.bx, List.append_assoc, List.take_succ_cons, List.take_zero, List.append_eq, id_eq, stepsO, List.map_cons, List.map_nil, valO, nthO, curO, mrg, List.reverse_cons, List.reverse_nil, List.nil_append, List.cons_append, List.append_nil, List.getElem?_cons_zero, List.getElem?_cons_succ, Option.map_some, Option.getD_some, List.set_cons_zero, List.set_cons_succ, AV.cellsOf, splice_zero, splice_succ, Nat.zero_add, Nat.reduceAdd]); rfl) ?_
      refine JL.callRF [] gofn10 rfl Lent.nil (fun _ => (.cons (.tmp rfl) .nil)) (ih Xc.self (hwi _ (List.getElem_mem _)) (EX.sz_get hn hlt)) (.inl rfl) fun x26 o26 h26 => ?_
      obtain ⟨iv26, oi26, rfl, rfl, hV26⟩ := h26
      refine JL.nil ?_
      refine thenQ.n ⟨[_], _, rfl, rfl, rfl, rfl, rfl, Reown.mrgN 5 rfl rfl, ⟨rfl, rfl⟩, ⟨rfl, ⟨trivial, trivial⟩⟩, ?_⟩
      refine JX.conv (S' := [7, 6, 5, 4, 3, 2]) rfl (by (try simp only [lvM]); rfl) (by (try simp only [vlF, bxF, tkM, lvM, Flt.val, Flt.bx, List.append_assoc, List.take_succ_cons, List.take_zero, List.append_eq, id_eq, stepsO, List.map_cons, List.map_nil, valO, nthO, curO, mrg, List.reverse_cons, List.reverse_nil, List.nil_append, List.cons_append, List.append_nil, List.getElem?_cons_zero, List.getElem?_cons_succ, Option.map_some, Option.getD_some, List.set_cons_zero, List.set_cons_succ, AV.cellsOf, splice_zero, splice_succ, Nat.zero_add, Nat.reduceAdd]); rfl) ?_
      refine JX.f 8 [26] rfl rfl rfl rfl rfl rfl rfl rfl (fun ow_ => (.q rfl (QW.buildSlice (idx := [0]) (xs := [is[j].raw iv26]) sl30 el32 z32 rfl (.cons (.tmp rfl) .nil) rfl rfl rfl rfl rfl rfl rfl rfl rfl))) ?_
      refine JX.one 9 [true, true, true] rfl (by kernel_rfl) (by kernel_rfl) rfl rfl (by kernel_rfl) rfl fun bs9_ pe_ ex_ => ?_
      refine JL.conv (by (try simp only [vlF, bxF, tkM, lvM, Flt.val, Flt.bx, List.append_assoc, List.take_succ_cons, List.take_zero, List.append_eq, id_eq, stepsO, List.map_cons, List.map_nil, valO, nthO, curO, mrg, List.reverse_cons, List.reverse_nil, List.nil_append, List.cons_append, List.append_nil, List.getElem?_cons_zero, List.getElem?_cons_succ, Option.map_some, Option.getD_some, List.set_cons_zero, List.set_cons_succ, AV.cellsOf, splice_zero, splice_succ, Nat.zero_add, Nat.reduceAdd]); rfl) ?_
      refine JL.append 3 sl30 el32 rfl (.tmp rfl) rfl (srcA_sl sl30 (.tmp rfl)) (by have := hK.h2; rw [List.length_take] at this; simp; unfold reach at *; omega) rfl fun v28 => ?_
      refine JL.nil ?_
      refine thenQ.n ⟨[_], _, rfl, rfl, rfl, rfl, rfl, Reown.tkN 6 rfl, ⟨rfl, rfl⟩, trivial, ?_⟩
      refine JX.conv (S' := [9, 8, 1, 0, 7, 6, 5, 4, 3, 2]) rfl (by (try simp only [lvM]); rfl) (by (try simp only [vlF, bxF, tkM, lvM, Flt.val, Flt.bx, List.append_assoc, List.take_succ_cons, List.take_zero, List.append_eq, id_eq, stepsO, List.map_cons, List.map_nil, valO, nthO, curO, mrg, List.reverse_cons, List.reverse_nil, List.nil_append, List.cons_append, List.append_nil, List.getElem?_cons_zero, List.getElem?_cons_succ, Option.map_some, Option.getD_some, List.set_cons_zero, List.set_cons_succ, AV.cellsOf, splice_zero, splice_succ, Nat.zero_add, Nat.reduceAdd]); rfl) ?_
      refine JX.f 10 [] rfl rfl rfl rfl rfl rfl rfl rfl (fun ow_ => (.q rfl (QW.field_ptr fo32_3 (.tmp rfl) rfl))) ?_
      refine JX.one 11 [true] rfl (by kernel_rfl) (by kernel_rfl) rfl rfl (by kernel_rfl) rfl fun bs11_ pe_ ex_ => ?_
      refine JL.conv (by (try simp only [vlF, bxF, tkM, lvM, Flt.val, Flt.bx, List.append_assoc, List.take_succ_cons, List.take_zero, List.append_eq, id_eq, stepsO, List.map_cons, List.map_nil, valO, nthO, curO, mrg, List.reverse_cons, List.reverse_nil, List.nil_append, List.cons_append, List.append_nil, List.getElem?_cons_zero, List.getElem?_cons_succ, Option.map_some, Option.getD_some, List.set_cons_zero, List.set_cons_succ, AV.cellsOf, splice_zero, splice_succ, Nat.zero_add, Nat.reduceAdd]); rfl) ?_
      refine JL.isSlice 3 rfl fun hs2 => ?_
      refine JL.store_box 0 ty30 (.tmp rfl) rfl (.tmp rfl) (by first | rfl | assumption) rfl rfl rfl rfl ?_
      refine JL.nil ?_
      refine thenQ.n ⟨[], _, rfl, rfl, rfl, rfl, rfl, Reown.tkN 6 rfl, trivial, trivial, ?_⟩
      refine JX.conv (S' := [11, 10, 9, 8, 1, 0, 7, 6, 5, 4, 3, 2]) rfl (by (try simp only [lvM]); rfl) (by (try simp only [vlF, bxF, tkM, lvM, Flt.val, Flt.bx, List.append_assoc, List.take_succ_cons, List.take_zero, List.append_eq, id_eq, stepsO, List.map_cons, List.map_nil, valO, nthO, curO, mrg, List.reverse_cons, List.reverse_nil, List.nil_append, List.cons_append, List.append_nil, List.getElem?_cons_zero, List.getElem?_cons_succ, Option.map_some, Option.getD_some, List.set_cons_zero, List.set_cons_succ, AV.cellsOf, splice_zero, splice_succ, Nat.zero_add, Nat.reduceAdd]); rfl) ?_
      refine JX.fin (by kernel_rfl) (by kernel_rfl) fun bs_ => ?_
      refine QX.conv (by (try simp only [vlF, bxF, tkM, lvM, Flt.val, Flt.bx, List.append_assoc, List.take_succ_cons, List.take_zero, List.append_eq, id_eq, stepsO, List.map_cons, List.map_nil, valO, nthO, curO, mrg, List.reverse_cons, List.reverse_nil, List.nil_append, List.cons_append, List.append_nil, List.getElem?_cons_zero, List.getElem?_cons_succ, Option.map_some, Option.getD_some, List.set_cons_zero, List.set_cons_succ, AV.cellsOf, splice_zero, splice_succ, Nat.zero_add, Nat.reduceAdd]); rfl) ?_
      refine blkQ.n ?_
      refine thenQ.n ?_
      refine J.region_lit ?_
      refine JL.q rfl rfl rfl (QW.move (.tmp rfl)) ?_
      refine JL.q rfl rfl rfl (QW.add (.tmp rfl) .const (by first | exact w64n (by first | rfl | omega | (simp; done)) (by omega) | exact w64 (by omega) | rfl)) ?_
      refine JL.q rfl rfl rfl (QW.assign (.tmp rfl)) ?_
      refine JL.nil ?_
      refine thenQ.n ?_
      exact ⟨⟨j + 1, _, _, _, _⟩, ⟨hlt, by rw [List.take_succ_eq_append_getElem hlt]; exact hK.snoc hV26⟩, by show is.length - (j + 1) < is.length - j; omega, Wk.re (.cons rfl (.refl _) (.cons rfl (.refl _) (.cons rfl (.refl _) (.cons rfl (.refl _) .nil)))) ((Reown.cons (Reown.cons (Reown.cons (Reown.cons (Reown.grp2 _ _ _)))))) (fun _ h => by first | exact h | simp [h])⟩
    · skip
      have hge : is.length ≤ j := by simpa [EX.css_length] using c1
      refine J.exit ?_
      refine thenQ.x ?_
      refine thenQ.x ?_
      refine blkQ.hit ?_
      refine thenQ.n ?_
      refine J.seq ?_
      refine J.isSlice 3 rfl fun hs1 => ?_
      refine J.reown (Reown.cons (Reown.cons (Reown.cons (Reown.grp2 _ _ _)))) ?_
      refine J.region_lit ?_
      refine JL.q rfl rfl rfl (by first | exact QW.load_box 0 ty32 (.tmp rfl) rfl rfl rfl | exact QW.load_box 0 ty32 (.tmp rfl) rfl (take_at (EX.cs_length _ _) rfl) (EX.cs_length _ _)) ?_
      first | refine JL.store_boxF 1 ty32 (.tmp rfl) rfl (.tmp rfl) (by first | rfl | assumption) (rfl) (rfl) rfl ?_ | refine JL.store_boxF 1 ty32 (.tmp rfl) rfl (.tmp rfl) (by first | rfl | assumption) (rfl) (EX.cs_length _ _) rfl ?_ | refine JL.store_boxF 1 ty32 (.tmp rfl) rfl (.tmp rfl) (by first | rfl | assumption) (EX.cs_length _ _) (rfl) rfl ?_ | refine JL.store_boxF 1 ty32 (.tmp rfl) rfl (.tmp rfl) (by first | rfl | assumption) (EX.cs_length _ _) (EX.cs_length _ _) rfl ?_ | refine JL.store_box 1 ty32 (.tmp rfl) rfl (.tmp rfl) (by first | rfl | assumption) rfl rfl rfl rfl ?_ | refine JL.store_box 1 ty32 (.tmp rfl) rfl (.tmp rfl) (by first | rfl | assumption) (EX.cs_length _ _) rfl rfl rfl ?_
      refine JL.nil ?_
      refine thenQ.n ?_
      refine J.ret ?_
      obtain rfl : j = is.length := by omega
      rw [List.take_length] at hK
      exact ⟨_, selP [.k, .k, .k, .p] _, _, RetEv.one rfl (by first | exact REv.cell 1 ty32 rfl rfl rfl rfl (.refl _) | exact REv.cell 1 ty32 rfl rfl (take_at (EX.cs_length _ _) rfl) (EX.cs_length _ _) (.refl _)), rfl, sel_perm [.k, .k, .k, .p] _, ⟨_, rfl, _, _, rfl, rfl, hs1, hK.tr hi80⟩⟩
theorem of14_own {v : EX} {ys : List AV} {fr : Bool} (hv : Xc fr v ys) (hw : v.wf) : AC Try.prog 10 [] [.agg ys] (RetR (CopyE v)) := of14_n _ hv hw (Nat.le_refl _)
end Go.Proofs.Ytlppnhkjonmniaa.J

/- Walks: Encode: what a round of its range does. -/
namespace Go.Proofs.Ytlppnhkjonmniaa.J
open Go Go.RowKit
set_option linter.unusedVariables false
set_option linter.unusedSimpArgs false
set_option maxRecDepth 10000
set_option maxHeartbeats 4000000
/-- What Encode owns between two rounds. -/
def encO (b5 : Nat) (s : Value × List UInt8) : List Own := [.box b5 [.c s.1], .arr s.1 eU8 (bytesAV s.2)]
def encP {w0 : World} {A0 : Foot} {fr : Bool} (pre : List (EArg w0 A0 fr)) (s : Value × List UInt8) : Prop := s.2 = octL (pre.map (·.1.2))
def encM {w0 : World} {A0 : Foot} {fr : Bool} (b5 : Nat) (F : List (Value × AV)) (pre : List (EArg w0 A0 fr)) (x : EArg w0 A0 fr) (s : St) : Prop :=
  ∃ b6 t, encP pre t ∧ s = ⟨61, [(6, .c (.pointer (some ⟨b6, 0, none⟩))), (5, .c (.pointer (some ⟨b5, 0, none⟩)))], .box b6 (x.1.2.cs fr) :: encO b5 t, F, []⟩
theorem encAssign {w0 w1 : World} {A0 A1 : Foot} {fr : Bool} {b5 l : Nat} {F : List (Value × AV)} {pre : List (EArg w0 A0 fr)} {x : EArg w0 A0 fr} {t : Value × List UInt8} (hp : encP pre t) :
    J Try.prog ⟨w1, fps (encO b5 t), A1, some l⟩ (rAssign Try.f16) ⟨61, (14, .agg (x.1.2.cs fr)) :: [(5, .c (.pointer (some ⟨b5, 0, none⟩)))], encO b5 t, F, []⟩ (fun e s => e = .normal ∧ encM b5 F pre x s) := by
  refine J.region_lit (JL.alloc z32 rfl rfl fun b6 => ?_)
  refine JL.store_boxF (z := .agg (x.1.2.cs fr)) 0 ty32 (.tmp rfl) rfl (.tmp rfl) rfl (EX.cs_length _ _) rfl rfl ?_
  refine JL.weak (Wk.re (.cons rfl (.refl _) (.cons rfl (.refl _) .nil)) (Reown.refl _) (fun _ h => h)) (JL.nil ⟨rfl, b6, t, hp, rfl⟩)
theorem encBody {w0 w1 : World} {A0 A1 : Foot} {fr : Bool} {b5 lp : Nat} {F : List (Value × AV)} {pre : List (EArg w0 A0 fr)} {x : EArg w0 A0 fr} {s : St} (hM : encM b5 F pre x s) (hlen : pre.length < 64) :
    J Try.prog ⟨w1, fps s.own, A1, some lp⟩ (rBody Try.f16) s (fun e s' => e = .normal ∧ ∃ (s2 : Value × List UInt8) (dr : List Own), encP (pre ++ [x]) s2 ∧ s'.own.Perm (encO b5 s2 ++ dr)) := by
  obtain ⟨b6, ⟨av, l⟩, hpl, rfl⟩ := hM
  generalize hxe : x.1.2 = xe
  have hxf : xe.Fine := hxe ▸ x.2.2.2
  have hxw : xe.wf := hxe ▸ x.2.2.1
  obtain ⟨o, b, t, is⟩ := xe
  obtain ⟨ho0, ho30, ht128, his8⟩ := hxf.bounds
  simp only [EX.op, EX.text, EX.args] at ho0 ho30 ht128 his8
  obtain ⟨-, hb64, -, -, -⟩ := hxw.inv
  have hpl0 : l = octL (pre.map (·.1.2)) := hpl
  replace hpl := hpl0
  have hl : l.length ≤ 8320 := by
    have := octL_len (l := pre.map (·.1.2)) (fun e he => by obtain ⟨y, _, rfl⟩ := List.mem_map.1 he; exact y.2.2.2)
    rw [List.length_map] at this
    rw [hpl]; omega
  refine J.block ?_
  refine J.seq ?_
  refine J.region_lit ?_
  refine JL.q rfl rfl rfl (QW.load_box1 1 ty40 (.tmp rfl) rfl rfl) ?_
  refine JL.q rfl rfl rfl (QW.field_ptr fo32_0 (.tmp rfl) rfl) ?_
  refine JL.q rfl rfl rfl (QW.load_box1 0 ty3 (.tmp rfl) rfl rfl) ?_
  refine JL.q rfl rfl rfl (QW.conv_int us3 iu5 (.tmp rfl) (c := ((o.toNat : Nat) : Int)) (by rw [show ((o.toNat : Nat) : Int) = o by omega]; exact wu8 (by omega))) ?_
  refine JL.q rfl rfl rfl (QW.buildSlice (idx := [0]) (xs := [[.c (.int .u8 ((o.toNat : Nat) : Int))]]) sl40 el5 z5 rfl (.cons (.tmp rfl) .nil) rfl rfl rfl rfl rfl rfl rfl rfl rfl) ?_
  refine JL.append 2 sl40 el5 rfl (.tmp rfl) rfl (srcA_sl sl40 (.tmp rfl)) (by simp only [List.length_append, List.length_cons, List.length_nil, bytesAV_length, List.length_take, be8_length] <;> (show _ * 1 ≤ _) <;> unfold reach <;> omega) rfl fun v20 => ?_
  refine JL.isSlice 2 rfl fun hs1 => ?_
  refine JL.store_box 1 ty40 (.tmp rfl) rfl (.tmp rfl) (by first | rfl | assumption) rfl rfl rfl rfl ?_
  refine JL.nil ?_
  refine thenQ.n ?_
  refine J.seq ?_
  refine J.region_lit ?_
  refine JL.q rfl rfl rfl (QW.field_ptr fo32_0 (.tmp rfl) rfl) ?_
  refine JL.q rfl rfl rfl (QW.load_box1 0 ty3 (.tmp rfl) rfl rfl) ?_
  refine JL.nil ?_
  refine thenQ.n ?_
  refine J.block ?_
  refine J.seq ?_
  refine J.region_lit ?_
  refine JL.q rfl rfl rfl (QW.eql (.tmp rfl) .const) ?_
  refine JL.q rfl rfl rfl (QW.assign (.tmp rfl)) ?_
  refine JL.nil ?_
  refine thenQ.n ?_
  refine J.cond (.tmp rfl) (fun c1 => ?_) (fun c1 => ?_)
  · skip
    obtain rfl : o = 3 := by simpa using c1
    refine J.seq ?_
    refine J.region_lit ?_
    refine JL.q rfl rfl rfl (QW.assign .const) ?_
    refine JL.nil ?_
    refine thenQ.n ?_
    refine J.block ?_
    refine J.loopK (ι := Nat × Value) [5, 6] (fun ⟨j, av2⟩ => [(7, .c (.int .i64 (56 - 8 * (j : Int))))]) (fun ⟨j, av2⟩ oo => List.set (List.set oo 1 (.box b5 [.c av2])) 2 (.arr av2 eU8 (bytesAV (l ++ (UInt8.ofNat (3 : Int).toNat :: (be8 b).take j))))) (fun ⟨j, av2⟩ => j ≤ 8) (fun ⟨j, av2⟩ => 8 - j) ⟨0, v20⟩ (Nat.zero_le _) (Wk.re (.cons rfl (.refl _) (.cons rfl (.refl _) (.cons rfl (.refl _) .nil))) (Reown.ofEq (by show [_, _, Own.arr v20 eU8 (bytesAV l ++ [[.c (.int .u8 (((3 : Int).toNat : Nat) : Int))]])] = [_, _, Own.arr v20 eU8 (bytesAV (l ++ [UInt8.ofNat (3 : Int).toNat]))]; rw [bytesAV_snoc (by decide)]; rfl)) (fun _ h => by first | exact h | simp [h])) ?_
    intro ⟨j, av2⟩ hj
    refine J.conv (by (try simp only [id_eq, stepsO, List.map_cons, List.map_nil, valO, nthO, curO, mrg, List.reverse_cons, List.reverse_nil, List.nil_append, List.cons_append, List.append_nil, List.getElem?_cons_zero, List.getElem?_cons_succ, Option.map_some, Option.getD_some, List.set_cons_zero, List.set_cons_succ, AV.cellsOf, splice_zero, splice_succ, Nat.zero_add, Nat.reduceAdd]); rfl) ?_
    refine J.seq ?_
    refine J.seq ?_
    refine J.region_lit ?_
    refine JL.q rfl rfl rfl (QW.move (.tmp rfl)) ?_
    refine JL.q rfl rfl rfl (QW.geq (.tmp rfl) .const) ?_
    refine JL.nil ?_
    refine thenQ.n ?_
    refine J.cond (.tmp rfl) (fun c2 => ?_) (fun c2 => ?_)
    · skip
      have hlt : j < 8 := by (simp at c2; omega)
      refine J.skip ?_
      refine thenQ.n ?_
      refine J.seq ?_
      refine J.block ?_
      refine J.regionX mixed ?_
      refine JX.o 0 1 [] rfl rfl rfl rfl rfl rfl rfl rfl rfl (fun ow_ ho_ => (.q rfl (QW.load_box1 1 ty40 (.tmp rfl) ho_ rfl))) ?_
      refine JX.f 1 [] rfl rfl rfl rfl rfl rfl rfl rfl (fun ow_ => (.q rfl (QW.field_ptr fo32_1 (.tmp rfl) rfl))) ?_
      refine JX.o 2 0 [30] rfl rfl rfl rfl rfl rfl rfl rfl rfl (fun ow_ ho_ => (.q rfl (QW.load_box1 0 ty22 (.tmp rfl) ho_ rfl))) ?_
      refine JX.f 3 [] rfl rfl rfl rfl rfl rfl rfl rfl (fun ow_ => (.q rfl (QW.move (.tmp rfl)))) ?_
      refine JX.f 4 [31, 32] rfl rfl rfl rfl rfl rfl rfl rfl (fun ow_ => (.q rfl (QW.shr (.tmp rfl) (.tmp rfl) (by omega) (shr8 hlt)))) ?_
      refine JX.f 5 [33] rfl rfl rfl rfl rfl rfl rfl rfl (fun ow_ => (.q rfl (QW.conv_int us22 iu5 (.tmp rfl) (c := ((b / 2 ^ (56 - 8 * j) % 256 : Nat) : Int)) (by rw [wu8_mod]; omega)))) ?_
      refine JX.f 6 [34] rfl rfl rfl rfl rfl rfl rfl rfl (fun ow_ => (.q rfl (QW.buildSlice (idx := [0]) (xs := [[.c (.int .u8 ((b / 2 ^ (56 - 8 * j) % 256 : Nat) : Int))]]) sl40 el5 z5 rfl (.cons (.tmp rfl) .nil) rfl rfl rfl rfl rfl rfl rfl rfl rfl))) ?_
      refine JX.one 7 [true, true, true, true, true, true, true] rfl (by kernel_rfl) (by kernel_rfl) rfl rfl (by kernel_rfl) rfl fun bs7_ pe_ ex_ => ?_
      refine JL.conv (by (try simp only [vlF, bxF, tkM, lvM, Flt.val, Flt.bx, List.append_assoc, List.take_succ_cons, List.take_zero, List.append_eq, id_eq, stepsO, List.map_cons, List.map_nil, valO, nthO, curO, mrg, List.reverse_cons, List.reverse_nil, List.nil_append, List.cons_append, List.append_nil, List.getElem?_cons_zero, List.getElem?_cons_succ, Option.map_some, Option.getD_some, List.set_cons_zero, List.set_cons_succ, AV.cellsOf, splice_zero, splice_succ, Nat.zero_add, Nat.reduceAdd]); rfl) ?_
      refine JL.append 2 sl40 el5 rfl (.tmp rfl) rfl (srcA_sl sl40 (.tmp rfl)) (by simp only [List.length_append, List.length_cons, List.length_nil, bytesAV_length, List.length_take, be8_length] <;> (show _ * 1 ≤ _) <;> unfold reach <;> omega) rfl fun v36 => ?_
      refine JL.nil ?_
      refine thenQ.n ⟨[_], _, rfl, rfl, rfl, rfl, rfl, Reown.tkN 3 rfl, ⟨rfl, rfl⟩, trivial, ?_⟩
      refine JX.conv (S' := [7, 6, 5, 4, 3, 2, 1, 0]) rfl (by (try simp only [lvM]); rfl) (by (try simp only [vlF, bxF, tkM, lvM, Flt.val, Flt.bx, List.append_assoc, List.take_succ_cons, List.take_zero, List.append_eq, id_eq, stepsO, List.map_cons, List.map_nil, valO, nthO, curO, mrg, List.reverse_cons, List.reverse_nil, List.nil_append, List.cons_append, List.append_nil, List.getElem?_cons_zero, List.getElem?_cons_succ, Option.map_some, Option.getD_some, List.set_cons_zero, List.set_cons_succ, AV.cellsOf, splice_zero, splice_succ, Nat.zero_add, Nat.reduceAdd]); rfl) ?_
      refine JX.one 8 [] rfl (by kernel_rfl) (by kernel_rfl) rfl rfl (by kernel_rfl) rfl fun bs8_ pe_ ex_ => ?_
      refine JL.conv (by (try simp only [vlF, bxF, tkM, lvM, Flt.val, Flt.bx, List.append_assoc, List.take_succ_cons, List.take_zero, List.append_eq, id_eq, stepsO, List.map_cons, List.map_nil, valO, nthO, curO, mrg, List.reverse_cons, List.reverse_nil, List.nil_append, List.cons_append, List.append_nil, List.getElem?_cons_zero, List.getElem?_cons_succ, Option.map_some, Option.getD_some, List.set_cons_zero, List.set_cons_succ, AV.cellsOf, splice_zero, splice_succ, Nat.zero_add, Nat.reduceAdd]); rfl) ?_
      refine JL.isSlice 2 rfl fun hs2 => ?_
      refine JL.store_box 1 ty40 (.tmp rfl) rfl (.tmp rfl) (by first | rfl | assumption) rfl rfl rfl rfl ?_
      refine JL.nil ?_
      refine thenQ.n ⟨[], _, rfl, rfl, rfl, rfl, rfl, Reown.tkN 3 rfl, trivial, trivial, ?_⟩
      refine JX.conv (S' := [8, 7, 6, 5, 4, 3, 2, 1, 0]) rfl (by (try simp only [lvM]); rfl) (by (try simp only [vlF, bxF, tkM, lvM, Flt.val, Flt.bx, List.append_assoc, List.take_succ_cons, List.take_zero, List.append_eq, id_eq, stepsO, List.map_cons, List.map_nil, valO, nthO, curO, mrg, List.reverse_cons, List.reverse_nil, List.nil_append, List.cons_append, List.append_nil, List.getElem?_cons_zero, List.getElem?_cons_succ, Option.map_some, Option.getD_some, List.set_cons_zero, List.set_cons_succ, AV.cellsOf, splice_zero, splice_succ, Nat.zero_add, Nat.reduceAdd]); rfl) ?_
      refine JX.fin (by kernel_rfl) (by kernel_rfl) fun bs_ => ?_
      refine QX.conv (by (try simp only [vlF, bxF, tkM, lvM, Flt.val, Flt.bx, List.append_assoc, List.take_succ_cons, List.take_zero, List.append_eq, id_eq, stepsO, List.map_cons, List.map_nil, valO, nthO, curO, mrg, List.reverse_cons, List.reverse_nil, List.nil_append, List.cons_append, List.append_nil, List.getElem?_cons_zero, List.getElem?_cons_succ, Option.map_some, Option.getD_some, List.set_cons_zero, List.set_cons_succ, AV.cellsOf, splice_zero, splice_succ, Nat.zero_add, Nat.reduceAdd]); rfl) ?_
      refine blkQ.n ?_
      refine thenQ.n ?_
      refine J.region_lit ?_
      refine JL.q rfl rfl rfl (QW.move (.tmp rfl)) ?_
      refine JL.q rfl rfl rfl (QW.sub (c := 56 - 8 * ((j + 1 : Nat) : Int)) (.tmp rfl) .const (by rw [w64 (by omega)]; omega)) ?_
      refine JL.q rfl rfl rfl (QW.assign (.tmp rfl)) ?_
      refine JL.nil ?_
      refine thenQ.n ?_
      exact ⟨⟨j + 1, v36⟩, hlt, by show 8 - (j + 1) < 8 - j; omega, Wk.re (.cons rfl (.refl _) (.cons rfl (.refl _) (.cons rfl (.refl _) .nil))) (Reown.ofEq (by show [_, _, Own.arr v36 eU8 (bytesAV (l ++ (UInt8.ofNat (3 : Int).toNat :: (be8 b).take j)) ++ [[.c (.int .u8 ((b / 2 ^ (56 - 8 * j) % 256 : Nat) : Int))]])] = [_, _, Own.arr v36 eU8 (bytesAV (l ++ (UInt8.ofNat (3 : Int).toNat :: (be8 b).take (j + 1))))]; rw [be8_take hlt, ← List.cons_append, ← List.append_assoc, bytesAV_snoc (Nat.mod_lt _ (by decide))])) (fun _ h => by first | exact h | simp [h])⟩
    · skip
      obtain rfl : j = 8 := by (simp at c2; omega)
      refine J.exit ?_
      refine thenQ.x ?_
      refine thenQ.x ?_
      refine blkQ.hit ?_
      refine blkQ.n ?_
      refine blkQ.n ?_
      have ho : (EX.mk 3 b t is).oct1 = UInt8.ofNat (3 : Int).toNat :: be8 b := by simp [EX.oct1, EX.op, EX.bits]
      have hL : bytesAV (l ++ (EX.mk 3 b t is).oct1) = bytesAV (l ++ (UInt8.ofNat (3 : Int).toNat :: (be8 b).take 8)) := by rw [ho]; rfl
      exact ⟨rfl, (av2, l ++ (EX.mk 3 b t is).oct1), [_], by show _ = octL _; rw [List.map_append, octL_append, ← hpl]; show _ = l ++ octL [x.1.2]; rw [hxe]; simp [octL], by show List.Perm [_, _, Own.arr _ eU8 _] ([_, Own.arr _ eU8 (bytesAV (l ++ (EX.mk 3 b t is).oct1))] ++ [_]); rw [hL]; exact (List.perm_append_comm (l₁ := [_]))⟩
  · skip
    have o3 : o ≠ 3 := by simpa using c1
    refine J.seq ?_
    refine J.seq ?_
    refine J.region_lit ?_
    refine JL.q rfl rfl rfl (QW.eql (.tmp rfl) .const) ?_
    refine JL.q rfl rfl rfl (QW.assign (.tmp rfl)) ?_
    refine JL.nil ?_
    refine thenQ.n ?_
    refine J.cond (.tmp rfl) (fun c2 => ?_) (fun c2 => ?_)
    · skip
      obtain rfl : o = 4 := by simpa using c2
      refine J.skip ?_
      refine thenQ.n ?_
      refine J.cond (.tmp rfl) (fun c3 => ?_) (fun c3 => absurd c3 (by simp))
      refine J.regionX mixed ?_
      refine JX.o 0 1 [] rfl rfl rfl rfl rfl rfl rfl rfl rfl (fun ow_ ho_ => (.q rfl (QW.load_box1 1 ty40 (.tmp rfl) ho_ rfl))) ?_
      refine JX.f 1 [] rfl rfl rfl rfl rfl rfl rfl rfl (fun ow_ => (.q rfl (QW.field_ptr fo32_2 (.tmp rfl) rfl))) ?_
      refine JX.o 2 0 [42] rfl rfl rfl rfl rfl rfl rfl rfl rfl (fun ow_ ho_ => (.q rfl (QW.load_box1 0 ty9 (.tmp rfl) ho_ rfl))) ?_
      refine JX.f 3 [43] rfl rfl rfl rfl rfl rfl rfl rfl (fun ow_ => (.q rfl (QW.len_s st9 (.tmp rfl)))) ?_
      refine JX.f 4 [44] rfl rfl rfl rfl rfl rfl rfl rfl (fun ow_ => (.q rfl (QW.conv_int us3 iu5 (.tmp rfl) (c := ((t.length : Nat) : Int)) (wu8 (by omega))))) ?_
      refine JX.f 5 [45] rfl rfl rfl rfl rfl rfl rfl rfl (fun ow_ => (.q rfl (QW.buildSlice (idx := [0]) (xs := [[.c (.int .u8 ((t.length : Nat) : Int))]]) sl40 el5 z5 rfl (.cons (.tmp rfl) .nil) rfl rfl rfl rfl rfl rfl rfl rfl rfl))) ?_
      refine JX.f 7 [] rfl rfl rfl rfl rfl rfl rfl rfl (fun ow_ => (.q rfl (QW.field_ptr fo32_2 (.tmp rfl) rfl))) ?_
      refine JX.o 8 0 [48] rfl rfl rfl rfl rfl rfl rfl rfl rfl (fun ow_ ho_ => (.q rfl (QW.load_box1 0 ty9 (.tmp rfl) ho_ rfl))) ?_
      refine JX.one 6 [false, false, true, true, true, true, true, true] rfl (by kernel_rfl) (by kernel_rfl) rfl rfl (by kernel_rfl) rfl fun bs6_ pe_ ex_ => ?_
      refine JL.conv (by (try simp only [vlF, bxF, tkM, lvM, Flt.val, Flt.bx, List.append_assoc, List.take_succ_cons, List.take_zero, List.append_eq, id_eq, stepsO, List.map_cons, List.map_nil, valO, nthO, curO, mrg, List.reverse_cons, List.reverse_nil, List.nil_append, List.cons_append, List.append_nil, List.getElem?_cons_zero, List.getElem?_cons_succ, Option.map_some, Option.getD_some, List.set_cons_zero, List.set_cons_succ, AV.cellsOf, splice_zero, splice_succ, Nat.zero_add, Nat.reduceAdd]); rfl) ?_
      refine JL.append 2 sl40 el5 rfl (.tmp rfl) rfl (srcA_sl sl40 (.tmp rfl)) (by simp only [List.length_append, List.length_cons, List.length_nil, bytesAV_length, List.length_take, be8_length] <;> (show _ * 1 ≤ _) <;> unfold reach <;> omega) rfl fun v47 => ?_
      refine JL.nil ?_
      refine thenQ.n ⟨[_], _, rfl, rfl, rfl, rfl, rfl, Reown.tkN 3 rfl, ⟨rfl, rfl⟩, ⟨rfl, ⟨trivial, trivial⟩⟩, ?_⟩
      refine JX.conv (S' := [6, 5, 4, 3, 2, 1, 0]) rfl (by (try simp only [lvM]); rfl) (by (try simp only [vlF, bxF, tkM, lvM, Flt.val, Flt.bx, List.append_assoc, List.take_succ_cons, List.take_zero, List.append_eq, id_eq, stepsO, List.map_cons, List.map_nil, valO, nthO, curO, mrg, List.reverse_cons, List.reverse_nil, List.nil_append, List.cons_append, List.append_nil, List.getElem?_cons_zero, List.getElem?_cons_succ, Option.map_some, Option.getD_some, List.set_cons_zero, List.set_cons_succ, AV.cellsOf, splice_zero, splice_succ, Nat.zero_add, Nat.reduceAdd]); rfl) ?_
      refine JX.one 9 [true, true] rfl (by kernel_rfl) (by kernel_rfl) rfl rfl (by kernel_rfl) rfl fun bs9_ pe_ ex_ => ?_
      refine JL.conv (by (try simp only [vlF, bxF, tkM, lvM, Flt.val, Flt.bx, List.append_assoc, List.take_succ_cons, List.take_zero, List.append_eq, id_eq, stepsO, List.map_cons, List.map_nil, valO, nthO, curO, mrg, List.reverse_cons, List.reverse_nil, List.nil_append, List.cons_append, List.append_nil, List.getElem?_cons_zero, List.getElem?_cons_succ, Option.map_some, Option.getD_some, List.set_cons_zero, List.set_cons_succ, AV.cellsOf, splice_zero, splice_succ, Nat.zero_add, Nat.reduceAdd]); rfl) ?_
      refine JL.append 2 sl40 el5 rfl (.tmp rfl) rfl (srcA_str st9 (.tmp rfl)) (by simp only [List.length_append, List.length_cons, List.length_nil, bytesAV_length, List.length_take, be8_length] <;> (show _ * 1 ≤ _) <;> unfold reach <;> omega) rfl fun v50 => ?_
      refine JL.nil ?_
      refine thenQ.n ⟨[_], _, rfl, rfl, rfl, rfl, rfl, Reown.tkN 3 rfl, ⟨rfl, rfl⟩, trivial, ?_⟩
      refine JX.conv (S' := [9, 8, 7, 6, 5, 4, 3, 2, 1, 0]) rfl (by (try simp only [lvM]); rfl) (by (try simp only [vlF, bxF, tkM, lvM, Flt.val, Flt.bx, List.append_assoc, List.take_succ_cons, List.take_zero, List.append_eq, id_eq, stepsO, List.map_cons, List.map_nil, valO, nthO, curO, mrg, List.reverse_cons, List.reverse_nil, List.nil_append, List.cons_append, List.append_nil, List.getElem?_cons_zero, List.getElem?_cons_succ, Option.map_some, Option.getD_some, List.set_cons_zero, List.set_cons_succ, AV.cellsOf, splice_zero, splice_succ, Nat.zero_add, Nat.reduceAdd]); rfl) ?_
      refine JX.one 10 [] rfl (by kernel_rfl) (by kernel_rfl) rfl rfl (by kernel_rfl) rfl fun bs10_ pe_ ex_ => ?_
      refine JL.conv (by (try simp only [vlF, bxF, tkM, lvM, Flt.val, Flt.bx, List.append_assoc, List.take_succ_cons, List.take_zero, List.append_eq, id_eq, stepsO, List.map_cons, List.map_nil, valO, nthO, curO, mrg, List.reverse_cons, List.reverse_nil, List.nil_append, List.cons_append, List.append_nil, List.getElem?_cons_zero, List.getElem?_cons_succ, Option.map_some, Option.getD_some, List.set_cons_zero, List.set_cons_succ, AV.cellsOf, splice_zero, splice_succ, Nat.zero_add, Nat.reduceAdd]); rfl) ?_
      refine JL.isSlice 2 rfl fun hs2 => ?_
      refine JL.store_box 1 ty40 (.tmp rfl) rfl (.tmp rfl) (by first | rfl | assumption) rfl rfl rfl rfl ?_
      refine JL.nil ?_
      refine thenQ.n ⟨[], _, rfl, rfl, rfl, rfl, rfl, Reown.tkN 3 rfl, trivial, trivial, ?_⟩
      refine JX.conv (S' := [10, 9, 8, 7, 6, 5, 4, 3, 2, 1, 0]) rfl (by (try simp only [lvM]); rfl) (by (try simp only [vlF, bxF, tkM, lvM, Flt.val, Flt.bx, List.append_assoc, List.take_succ_cons, List.take_zero, List.append_eq, id_eq, stepsO, List.map_cons, List.map_nil, valO, nthO, curO, mrg, List.reverse_cons, List.reverse_nil, List.nil_append, List.cons_append, List.append_nil, List.getElem?_cons_zero, List.getElem?_cons_succ, Option.map_some, Option.getD_some, List.set_cons_zero, List.set_cons_succ, AV.cellsOf, splice_zero, splice_succ, Nat.zero_add, Nat.reduceAdd]); rfl) ?_
      refine JX.fin (by kernel_rfl) (by kernel_rfl) fun bs_ => ?_
      refine QX.conv (by (try simp only [vlF, bxF, tkM, lvM, Flt.val, Flt.bx, List.append_assoc, List.take_succ_cons, List.take_zero, List.append_eq, id_eq, stepsO, List.map_cons, List.map_nil, valO, nthO, curO, mrg, List.reverse_cons, List.reverse_nil, List.nil_append, List.cons_append, List.append_nil, List.getElem?_cons_zero, List.getElem?_cons_succ, Option.map_some, Option.getD_some, List.set_cons_zero, List.set_cons_succ, AV.cellsOf, splice_zero, splice_succ, Nat.zero_add, Nat.reduceAdd]); rfl) ?_
      refine blkQ.n ?_
      refine blkQ.n ?_
      have ho : (EX.mk 4 b t is).oct1 = UInt8.ofNat (4 : Int).toNat :: UInt8.ofNat t.length :: t := by simp [EX.oct1, EX.op, EX.text]
      have hL : bytesAV (l ++ (EX.mk 4 b t is).oct1) = bytesAV l ++ [.c (.int .u8 (((4 : Int).toNat : Nat) : Int))] :: [.c (.int .u8 ((t.length : Nat) : Int))] :: bytesAV t := by rw [ho]; rw [bytesAV_append, bytesAV_cons (by decide), bytesAV_cons (by omega)]; rfl
      exact ⟨rfl, (v50, l ++ (EX.mk 4 b t is).oct1), [_], by show _ = octL _; rw [List.map_append, octL_append, ← hpl]; show _ = l ++ octL [x.1.2]; rw [hxe]; simp [octL], by show List.Perm [_, _, Own.arr _ eU8 _] ([_, Own.arr _ eU8 (bytesAV (l ++ (EX.mk 4 b t is).oct1))] ++ [_]); rw [hL]; exact (List.perm_append_comm (l₁ := [_]))⟩
    · skip
      have o4 : o ≠ 4 := by simpa using c2
      refine J.seq ?_
      refine J.region_lit ?_
      refine JL.q rfl rfl rfl (QW.eql (.tmp rfl) .const) ?_
      refine JL.q rfl rfl rfl (QW.assign (.tmp rfl)) ?_
      refine JL.nil ?_
      refine thenQ.n ?_
      refine J.cond (.tmp rfl) (fun c3 => ?_) (fun c3 => ?_)
      · skip
        obtain rfl : o = 8 := by simpa using c3
        refine J.skip ?_
        refine thenQ.n ?_
        refine J.cond (.tmp rfl) (fun c4 => ?_) (fun c4 => absurd c4 (by simp))
        refine J.regionX mixed ?_
        refine JX.o 0 1 [] rfl rfl rfl rfl rfl rfl rfl rfl rfl (fun ow_ ho_ => (.q rfl (QW.load_box1 1 ty40 (.tmp rfl) ho_ rfl))) ?_
        refine JX.f 1 [] rfl rfl rfl rfl rfl rfl rfl rfl (fun ow_ => (.q rfl (QW.field_ptr fo32_2 (.tmp rfl) rfl))) ?_
        refine JX.o 2 0 [42] rfl rfl rfl rfl rfl rfl rfl rfl rfl (fun ow_ ho_ => (.q rfl (QW.load_box1 0 ty9 (.tmp rfl) ho_ rfl))) ?_
        refine JX.f 3 [43] rfl rfl rfl rfl rfl rfl rfl rfl (fun ow_ => (.q rfl (QW.len_s st9 (.tmp rfl)))) ?_
        refine JX.f 4 [44] rfl rfl rfl rfl rfl rfl rfl rfl (fun ow_ => (.q rfl (QW.conv_int us3 iu5 (.tmp rfl) (c := ((t.length : Nat) : Int)) (wu8 (by omega))))) ?_
        refine JX.f 5 [45] rfl rfl rfl rfl rfl rfl rfl rfl (fun ow_ => (.q rfl (QW.buildSlice (idx := [0]) (xs := [[.c (.int .u8 ((t.length : Nat) : Int))]]) sl40 el5 z5 rfl (.cons (.tmp rfl) .nil) rfl rfl rfl rfl rfl rfl rfl rfl rfl))) ?_
        refine JX.f 7 [] rfl rfl rfl rfl rfl rfl rfl rfl (fun ow_ => (.q rfl (QW.field_ptr fo32_2 (.tmp rfl) rfl))) ?_
        refine JX.o 8 0 [48] rfl rfl rfl rfl rfl rfl rfl rfl rfl (fun ow_ ho_ => (.q rfl (QW.load_box1 0 ty9 (.tmp rfl) ho_ rfl))) ?_
        refine JX.one 6 [false, false, true, true, true, true, true, true] rfl (by kernel_rfl) (by kernel_rfl) rfl rfl (by kernel_rfl) rfl fun bs6_ pe_ ex_ => ?_
        refine JL.conv (by (try simp only [vlF, bxF, tkM, lvM, Flt.val, Flt.bx, List.append_assoc, List.take_succ_cons, List.take_zero, List.append_eq, id_eq, stepsO, List.map_cons, List.map_nil, valO, nthO, curO, mrg, List.reverse_cons, List.reverse_nil, List.nil_append, List.cons_append, List.append_nil, List.getElem?_cons_zero, List.getElem?_cons_succ, Option.map_some, Option.getD_some, List.set_cons_zero, List.set_cons_succ, AV.cellsOf, splice_zero, splice_succ, Nat.zero_add, Nat.reduceAdd]); rfl) ?_
        refine JL.append 2 sl40 el5 rfl (.tmp rfl) rfl (srcA_sl sl40 (.tmp rfl)) (by simp only [List.length_append, List.length_cons, List.length_nil, bytesAV_length, List.length_take, be8_length] <;> (show _ * 1 ≤ _) <;> unfold reach <;> omega) rfl fun v47 => ?_
        refine JL.nil ?_
        refine thenQ.n ⟨[_], _, rfl, rfl, rfl, rfl, rfl, Reown.tkN 3 rfl, ⟨rfl, rfl⟩, ⟨rfl, ⟨trivial, trivial⟩⟩, ?_⟩
        refine JX.conv (S' := [6, 5, 4, 3, 2, 1, 0]) rfl (by (try simp only [lvM]); rfl) (by (try simp only [vlF, bxF, tkM, lvM, Flt.val, Flt.bx, List.append_assoc, List.take_succ_cons, List.take_zero, List.append_eq, id_eq, stepsO, List.map_cons, List.map_nil, valO, nthO, curO, mrg, List.reverse_cons, List.reverse_nil, List.nil_append, List.cons_append, List.append_nil, List.getElem?_cons_zero, List.getElem?_cons_succ, Option.map_some, Option.getD_some, List.set_cons_zero, List.set_cons_succ, AV.cellsOf, splice_zero, splice_succ, Nat.zero_add, Nat.reduceAdd]); rfl) ?_
        refine JX.one 9 [true, true] rfl (by kernel_rfl) (by kernel_rfl) rfl rfl (by kernel_rfl) rfl fun bs9_ pe_ ex_ => ?_
        refine JL.conv (by (try simp only [vlF, bxF, tkM, lvM, Flt.val, Flt.bx, List.append_assoc, List.take_succ_cons, List.take_zero, List.append_eq, id_eq, stepsO, List.map_cons, List.map_nil, valO, nthO, curO, mrg, List.reverse_cons, List.reverse_nil, List.nil_append, List.cons_append, List.append_nil, List.getElem?_cons_zero, List.getElem?_cons_succ, Option.map_some, Option.getD_some, List.set_cons_zero, List.set_cons_succ, AV.cellsOf, splice_zero, splice_succ, Nat.zero_add, Nat.reduceAdd]); rfl) ?_
        refine JL.append 2 sl40 el5 rfl (.tmp rfl) rfl (srcA_str st9 (.tmp rfl)) (by simp only [List.length_append, List.length_cons, List.length_nil, bytesAV_length, List.length_take, be8_length] <;> (show _ * 1 ≤ _) <;> unfold reach <;> omega) rfl fun v50 => ?_
        refine JL.nil ?_
        refine thenQ.n ⟨[_], _, rfl, rfl, rfl, rfl, rfl, Reown.tkN 3 rfl, ⟨rfl, rfl⟩, trivial, ?_⟩
        refine JX.conv (S' := [9, 8, 7, 6, 5, 4, 3, 2, 1, 0]) rfl (by (try simp only [lvM]); rfl) (by (try simp only [vlF, bxF, tkM, lvM, Flt.val, Flt.bx, List.append_assoc, List.take_succ_cons, List.take_zero, List.append_eq, id_eq, stepsO, List.map_cons, List.map_nil, valO, nthO, curO, mrg, List.reverse_cons, List.reverse_nil, List.nil_append, List.cons_append, List.append_nil, List.getElem?_cons_zero, List.getElem?_cons_succ, Option.map_some, Option.getD_some, List.set_cons_zero, List.set_cons_succ, AV.cellsOf, splice_zero, splice_succ, Nat.zero_add, Nat.reduceAdd]); rfl) ?_
        refine JX.one 10 [] rfl (by kernel_rfl) (by kernel_rfl) rfl rfl (by kernel_rfl) rfl fun bs10_ pe_ ex_ => ?_
        refine JL.conv (by (try simp only [vlF, bxF, tkM, lvM, Flt.val, Flt.bx, List.append_assoc, List.take_succ_cons, List.take_zero, List.append_eq, id_eq, stepsO, List.map_cons, List.map_nil, valO, nthO, curO, mrg, List.reverse_cons, List.reverse_nil, List.nil_append, List.cons_append, List.append_nil, List.getElem?_cons_zero, List.getElem?_cons_succ, Option.map_some, Option.getD_some, List.set_cons_zero, List.set_cons_succ, AV.cellsOf, splice_zero, splice_succ, Nat.zero_add, Nat.reduceAdd]); rfl) ?_
        refine JL.isSlice 2 rfl fun hs2 => ?_
        refine JL.store_box 1 ty40 (.tmp rfl) rfl (.tmp rfl) (by first | rfl | assumption) rfl rfl rfl rfl ?_
        refine JL.nil ?_
        refine thenQ.n ⟨[], _, rfl, rfl, rfl, rfl, rfl, Reown.tkN 3 rfl, trivial, trivial, ?_⟩
        refine JX.conv (S' := [10, 9, 8, 7, 6, 5, 4, 3, 2, 1, 0]) rfl (by (try simp only [lvM]); rfl) (by (try simp only [vlF, bxF, tkM, lvM, Flt.val, Flt.bx, List.append_assoc, List.take_succ_cons, List.take_zero, List.append_eq, id_eq, stepsO, List.map_cons, List.map_nil, valO, nthO, curO, mrg, List.reverse_cons, List.reverse_nil, List.nil_append, List.cons_append, List.append_nil, List.getElem?_cons_zero, List.getElem?_cons_succ, Option.map_some, Option.getD_some, List.set_cons_zero, List.set_cons_succ, AV.cellsOf, splice_zero, splice_succ, Nat.zero_add, Nat.reduceAdd]); rfl) ?_
        refine JX.fin (by kernel_rfl) (by kernel_rfl) fun bs_ => ?_
        refine QX.conv (by (try simp only [vlF, bxF, tkM, lvM, Flt.val, Flt.bx, List.append_assoc, List.take_succ_cons, List.take_zero, List.append_eq, id_eq, stepsO, List.map_cons, List.map_nil, valO, nthO, curO, mrg, List.reverse_cons, List.reverse_nil, List.nil_append, List.cons_append, List.append_nil, List.getElem?_cons_zero, List.getElem?_cons_succ, Option.map_some, Option.getD_some, List.set_cons_zero, List.set_cons_succ, AV.cellsOf, splice_zero, splice_succ, Nat.zero_add, Nat.reduceAdd]); rfl) ?_
        refine blkQ.n ?_
        refine blkQ.n ?_
        have ho : (EX.mk 8 b t is).oct1 = UInt8.ofNat (8 : Int).toNat :: UInt8.ofNat t.length :: t := by simp [EX.oct1, EX.op, EX.text]
        have hL : bytesAV (l ++ (EX.mk 8 b t is).oct1) = bytesAV l ++ [.c (.int .u8 (((8 : Int).toNat : Nat) : Int))] :: [.c (.int .u8 ((t.length : Nat) : Int))] :: bytesAV t := by rw [ho]; rw [bytesAV_append, bytesAV_cons (by decide), bytesAV_cons (by omega)]; rfl
        exact ⟨rfl, (v50, l ++ (EX.mk 8 b t is).oct1), [_], by show _ = octL _; rw [List.map_append, octL_append, ← hpl]; show _ = l ++ octL [x.1.2]; rw [hxe]; simp [octL], by show List.Perm [_, _, Own.arr _ eU8 _] ([_, Own.arr _ eU8 (bytesAV (l ++ (EX.mk 8 b t is).oct1))] ++ [_]); rw [hL]; exact (List.perm_append_comm (l₁ := [_]))⟩
      · skip
        have o8 : o ≠ 8 := by simpa using c3
        refine J.region_lit ?_
        refine JL.q rfl rfl rfl (QW.eql (.tmp rfl) .const) ?_
        refine JL.q rfl rfl rfl (QW.assign (.tmp rfl)) ?_
        refine JL.nil ?_
        refine thenQ.n ?_
        refine J.cond (.tmp rfl) (fun c4 => ?_) (fun c4 => ?_)
        · skip
          obtain rfl : o = 25 := by simpa using c4
          refine J.regionX mixed ?_
          refine JX.o 0 1 [] rfl rfl rfl rfl rfl rfl rfl rfl rfl (fun ow_ ho_ => (.q rfl (QW.load_box1 1 ty40 (.tmp rfl) ho_ rfl))) ?_
          refine JX.f 1 [] rfl rfl rfl rfl rfl rfl rfl rfl (fun ow_ => (.q rfl (QW.field_ptr fo32_2 (.tmp rfl) rfl))) ?_
          refine JX.o 2 0 [42] rfl rfl rfl rfl rfl rfl rfl rfl rfl (fun ow_ ho_ => (.q rfl (QW.load_box1 0 ty9 (.tmp rfl) ho_ rfl))) ?_
          refine JX.f 3 [43] rfl rfl rfl rfl rfl rfl rfl rfl (fun ow_ => (.q rfl (QW.len_s st9 (.tmp rfl)))) ?_
          refine JX.f 4 [44] rfl rfl rfl rfl rfl rfl rfl rfl (fun ow_ => (.q rfl (QW.conv_int us3 iu5 (.tmp rfl) (c := ((t.length : Nat) : Int)) (wu8 (by omega))))) ?_
          refine JX.f 5 [45] rfl rfl rfl rfl rfl rfl rfl rfl (fun ow_ => (.q rfl (QW.buildSlice (idx := [0]) (xs := [[.c (.int .u8 ((t.length : Nat) : Int))]]) sl40 el5 z5 rfl (.cons (.tmp rfl) .nil) rfl rfl rfl rfl rfl rfl rfl rfl rfl))) ?_
          refine JX.f 7 [] rfl rfl rfl rfl rfl rfl rfl rfl (fun ow_ => (.q rfl (QW.field_ptr fo32_2 (.tmp rfl) rfl))) ?_
          refine JX.o 8 0 [48] rfl rfl rfl rfl rfl rfl rfl rfl rfl (fun ow_ ho_ => (.q rfl (QW.load_box1 0 ty9 (.tmp rfl) ho_ rfl))) ?_
          refine JX.one 6 [false, false, true, true, true, true, true, true] rfl (by kernel_rfl) (by kernel_rfl) rfl rfl (by kernel_rfl) rfl fun bs6_ pe_ ex_ => ?_
          refine JL.conv (by (try simp only [vlF, bxF, tkM, lvM, Flt.val, Flt.bx, List.append_assoc, List.take_succ_cons, List.take_zero, List.append_eq, id_eq, stepsO, List.map_cons, List.map_nil, valO, nthO, curO, mrg, List.reverse_cons, List.reverse_nil, List.nil_append, List.cons_append, List.append_nil, List.getElem?_cons_zero, List.getElem?_cons_succ, Option.map_some, Option.getD_some, List.set_cons_zero, List.set_cons_succ, AV.cellsOf, splice_zero, splice_succ, Nat.zero_add, Nat.reduceAdd]); rfl) ?_
          refine JL.append 2 sl40 el5 rfl (.tmp rfl) rfl (srcA_sl sl40 (.tmp rfl)) (by simp only [List.length_append, List.length_cons, List.length_nil, bytesAV_length, List.length_take, be8_length] <;> (show _ * 1 ≤ _) <;> unfold reach <;> omega) rfl fun v47 => ?_
          refine JL.nil ?_
          refine thenQ.n ⟨[_], _, rfl, rfl, rfl, rfl, rfl, Reown.tkN 3 rfl, ⟨rfl, rfl⟩, ⟨rfl, ⟨trivial, trivial⟩⟩, ?_⟩
          refine JX.conv (S' := [6, 5, 4, 3, 2, 1, 0]) rfl (by (try simp only [lvM]); rfl) (by (try simp only [vlF, bxF, tkM, lvM, Flt.val, Flt.bx, List.append_assoc, List.take_succ_cons, List.take_zero, List.append_eq, id_eq, stepsO, List.map_cons, List.map_nil, valO, nthO, curO, mrg, List.reverse_cons, List.reverse_nil, List.nil_append, List.cons_append, List.append_nil, List.getElem?_cons_zero, List.getElem?_cons_succ, Option.map_some, Option.getD_some, List.set_cons_zero, List.set_cons_succ, AV.cellsOf, splice_zero, splice_succ, Nat.zero_add, Nat.reduceAdd]); rfl) ?_
          refine JX.one 9 [true, true] rfl (by kernel_rfl) (by kernel_rfl) rfl rfl (by kernel_rfl) rfl fun bs9_ pe_ ex_ => ?_
          refine JL.conv (by (try simp only [vlF, bxF, tkM, lvM, Flt.val, Flt.bx, List.append_assoc, List.take_succ_cons, List.take_zero, List.append_eq, id_eq, stepsO, List.map_cons, List.map_nil, valO, nthO, curO, mrg, List.reverse_cons, List.reverse_nil, List.nil_append, List.cons_append, List.append_nil, List.getElem?_cons_zero, List.getElem?_cons_succ, Option.map_some, Option.getD_some, List.set_cons_zero, List.set_cons_succ, AV.cellsOf, splice_zero, splice_succ, Nat.zero_add, Nat.reduceAdd]); rfl) ?_
          refine JL.append 2 sl40 el5 rfl (.tmp rfl) rfl (srcA_str st9 (.tmp rfl)) (by simp only [List.length_append, List.length_cons, List.length_nil, bytesAV_length, List.length_take, be8_length] <;> (show _ * 1 ≤ _) <;> unfold reach <;> omega) rfl fun v50 => ?_
          refine JL.nil ?_
          refine thenQ.n ⟨[_], _, rfl, rfl, rfl, rfl, rfl, Reown.tkN 3 rfl, ⟨rfl, rfl⟩, trivial, ?_⟩
          refine JX.conv (S' := [9, 8, 7, 6, 5, 4, 3, 2, 1, 0]) rfl (by (try simp only [lvM]); rfl) (by (try simp only [vlF, bxF, tkM, lvM, Flt.val, Flt.bx, List.append_assoc, List.take_succ_cons, List.take_zero, List.append_eq, id_eq, stepsO, List.map_cons, List.map_nil, valO, nthO, curO, mrg, List.reverse_cons, List.reverse_nil, List.nil_append, List.cons_append, List.append_nil, List.getElem?_cons_zero, List.getElem?_cons_succ, Option.map_some, Option.getD_some, List.set_cons_zero, List.set_cons_succ, AV.cellsOf, splice_zero, splice_succ, Nat.zero_add, Nat.reduceAdd]); rfl) ?_
          refine JX.one 10 [] rfl (by kernel_rfl) (by kernel_rfl) rfl rfl (by kernel_rfl) rfl fun bs10_ pe_ ex_ => ?_
          refine JL.conv (by (try simp only [vlF, bxF, tkM, lvM, Flt.val, Flt.bx, List.append_assoc, List.take_succ_cons, List.take_zero, List.append_eq, id_eq, stepsO, List.map_cons, List.map_nil, valO, nthO, curO, mrg, List.reverse_cons, List.reverse_nil, List.nil_append, List.cons_append, List.append_nil, List.getElem?_cons_zero, List.getElem?_cons_succ, Option.map_some, Option.getD_some, List.set_cons_zero, List.set_cons_succ, AV.cellsOf, splice_zero, splice_succ, Nat.zero_add, Nat.reduceAdd]); rfl) ?_
          refine JL.isSlice 2 rfl fun hs2 => ?_
          refine JL.store_box 1 ty40 (.tmp rfl) rfl (.tmp rfl) (by first | rfl | assumption) rfl rfl rfl rfl ?_
          refine JL.nil ?_
          refine thenQ.n ⟨[], _, rfl, rfl, rfl, rfl, rfl, Reown.tkN 3 rfl, trivial, trivial, ?_⟩
          refine JX.conv (S' := [10, 9, 8, 7, 6, 5, 4, 3, 2, 1, 0]) rfl (by (try simp only [lvM]); rfl) (by (try simp only [vlF, bxF, tkM, lvM, Flt.val, Flt.bx, List.append_assoc, List.take_succ_cons, List.take_zero, List.append_eq, id_eq, stepsO, List.map_cons, List.map_nil, valO, nthO, curO, mrg, List.reverse_cons, List.reverse_nil, List.nil_append, List.cons_append, List.append_nil, List.getElem?_cons_zero, List.getElem?_cons_succ, Option.map_some, Option.getD_some, List.set_cons_zero, List.set_cons_succ, AV.cellsOf, splice_zero, splice_succ, Nat.zero_add, Nat.reduceAdd]); rfl) ?_
          refine JX.fin (by kernel_rfl) (by kernel_rfl) fun bs_ => ?_
          refine QX.conv (by (try simp only [vlF, bxF, tkM, lvM, Flt.val, Flt.bx, List.append_assoc, List.take_succ_cons, List.take_zero, List.append_eq, id_eq, stepsO, List.map_cons, List.map_nil, valO, nthO, curO, mrg, List.reverse_cons, List.reverse_nil, List.nil_append, List.cons_append, List.append_nil, List.getElem?_cons_zero, List.getElem?_cons_succ, Option.map_some, Option.getD_some, List.set_cons_zero, List.set_cons_succ, AV.cellsOf, splice_zero, splice_succ, Nat.zero_add, Nat.reduceAdd]); rfl) ?_
          refine blkQ.n ?_
          refine blkQ.n ?_
          have ho : (EX.mk 25 b t is).oct1 = UInt8.ofNat (25 : Int).toNat :: UInt8.ofNat t.length :: t := by simp [EX.oct1, EX.op, EX.text]
          have hL : bytesAV (l ++ (EX.mk 25 b t is).oct1) = bytesAV l ++ [.c (.int .u8 (((25 : Int).toNat : Nat) : Int))] :: [.c (.int .u8 ((t.length : Nat) : Int))] :: bytesAV t := by rw [ho]; rw [bytesAV_append, bytesAV_cons (by decide), bytesAV_cons (by omega)]; rfl
          exact ⟨rfl, (v50, l ++ (EX.mk 25 b t is).oct1), [_], by show _ = octL _; rw [List.map_append, octL_append, ← hpl]; show _ = l ++ octL [x.1.2]; rw [hxe]; simp [octL], by show List.Perm [_, _, Own.arr _ eU8 _] ([_, Own.arr _ eU8 (bytesAV (l ++ (EX.mk 25 b t is).oct1))] ++ [_]); rw [hL]; exact (List.perm_append_comm (l₁ := [_]))⟩
        · skip
          have o25 : o ≠ 25 := by simpa using c4
          refine J.seq ?_
          refine J.region_lit ?_
          refine JL.q rfl rfl rfl (QW.eql (.tmp rfl) .const) ?_
          refine JL.q rfl rfl rfl (QW.assign (.tmp rfl)) ?_
          refine JL.nil ?_
          refine thenQ.n ?_
          refine J.cond (.tmp rfl) (fun c5 => ?_) (fun c5 => ?_)
          · skip
            obtain rfl : o = 23 := by simpa using c5
            refine J.region_lit ?_
            refine JL.q rfl rfl rfl (QW.load_box1 1 ty40 (.tmp rfl) rfl rfl) ?_
            refine JL.q rfl rfl rfl (QW.field_ptr fo32_3 (.tmp rfl) rfl) ?_
            refine JL.q rfl rfl rfl (QW.load_box1 0 ty30 (.tmp rfl) rfl rfl) ?_
            refine JL.q rfl rfl rfl (by first | exact QW.len_slE sl30 (.tmp rfl) (EX.css_length _ _) | exact QW.len_sl sl30 (.tmp rfl) | exact QW.len_nil sl30 (.tmp rfl)) ?_
            refine JL.q rfl rfl rfl (QW.conv_int us3 iu5 (.tmp rfl) (c := ((is.length : Nat) : Int)) (wu8 (by omega))) ?_
            refine JL.q rfl rfl rfl (QW.buildSlice (idx := [0]) (xs := [[.c (.int .u8 ((is.length : Nat) : Int))]]) sl40 el5 z5 rfl (.cons (.tmp rfl) .nil) rfl rfl rfl rfl rfl rfl rfl rfl rfl) ?_
            refine JL.append 2 sl40 el5 rfl (.tmp rfl) rfl (srcA_sl sl40 (.tmp rfl)) (by simp only [List.length_append, List.length_cons, List.length_nil, bytesAV_length, List.length_take, be8_length] <;> (show _ * 1 ≤ _) <;> unfold reach <;> omega) rfl fun v59 => ?_
            refine JL.isSlice 2 rfl fun hs2 => ?_
            refine JL.store_box 1 ty40 (.tmp rfl) rfl (.tmp rfl) (by first | rfl | assumption) rfl rfl rfl rfl ?_
            refine JL.nil ?_
            refine blkQ.n ?_
            refine blkQ.n ?_
            have ho : (EX.mk 23 b t is).oct1 = [UInt8.ofNat (23 : Int).toNat, UInt8.ofNat is.length] := by simp [EX.oct1, EX.op, EX.args]
            have hL : bytesAV (l ++ (EX.mk 23 b t is).oct1) = bytesAV l ++ [[.c (.int .u8 (((23 : Int).toNat : Nat) : Int))]] ++ [[.c (.int .u8 ((is.length : Nat) : Int))]] := by rw [ho]; rw [bytesAV_append, bytesAV_cons (by decide), bytesAV_one (by omega)]; simp only [List.append_assoc]
            exact ⟨rfl, (v59, l ++ (EX.mk 23 b t is).oct1), [_], by show _ = octL _; rw [List.map_append, octL_append, ← hpl]; show _ = l ++ octL [x.1.2]; rw [hxe]; simp [octL], by show List.Perm [_, _, Own.arr _ eU8 _] ([_, Own.arr _ eU8 (bytesAV (l ++ (EX.mk 23 b t is).oct1))] ++ [_]); rw [hL]; exact (List.perm_append_comm (l₁ := [_]))⟩
          · skip
            have o23 : o ≠ 23 := by simpa using c5
            refine J.skip ?_
            refine blkQ.n ?_
            refine blkQ.n ?_
            have ho : (EX.mk o b t is).oct1 = [UInt8.ofNat o.toNat] := by simp [EX.oct1, EX.op, o3, o4, o8, o25, o23]
            have hL : bytesAV (l ++ (EX.mk o b t is).oct1) = bytesAV l ++ [[.c (.int .u8 ((o.toNat : Nat) : Int))]] := by rw [ho]; exact bytesAV_snoc (by omega) _
            exact ⟨rfl, (v20, l ++ (EX.mk o b t is).oct1), [_], by show _ = octL _; rw [List.map_append, octL_append, ← hpl]; show _ = l ++ octL [x.1.2]; rw [hxe]; simp [octL], by show List.Perm [_, _, Own.arr _ eU8 _] ([_, Own.arr _ eU8 (bytesAV (l ++ (EX.mk o b t is).oct1))] ++ [_]); rw [hL]; exact (List.perm_append_comm (l₁ := [_]))⟩
end Go.Proofs.Ytlppnhkjonmniaa.J

/- Encode: its octets are the page's. -/
namespace Go.Proofs.Ytlppnhkjonmniaa.J
open Go Go.RowKit
set_option linter.unusedVariables false
set_option linter.unusedSimpArgs false
set_option maxRecDepth 10000
set_option maxHeartbeats 4000000
theorem encSeq {w0 : World} {A0 : Foot} {fr : Bool} {c : Nat} {e : EX} {b1 : Nat} (hm : ∀ b, A0 true b → A0 false b) (hA : ∀ fr b, A0 fr b → Sf c w0 b) (hok : OkW c w0)
    (hr : Rd w0 A0 (.pointer (some ⟨b1, 0, none⟩)) (.ref true (e.cs fr))) (hw : e.wf) (hfi : e.Fine) :
    SeqK Fence.wide 1 Try.prog 28 #[.pointer (some ⟨b1, 0, none⟩)] (fun x : EArg w0 A0 fr => #[x.1.1]) (Kp c) (fun xs => xs.map (·.1.2) = e.parts) e.sz w0 := by
  intro l Jv W hW hJ hY hJ0
  have hgW : w0.grownBy W none := ⟨hW.os, hW.tape, hW.output, hW.size, fun k hk _ => hW.block k hk⟩
  have hkW := (Kp.grown hgW : Kp c w0 W) hok
  have hR0 : ∀ fr b, A0 fr b → Sf c W b ∧ W.heap[b]? = w0.heap[b]? := fun fr b hb => (hA fr b hb).keep hkW
  obtain ⟨b0, off0, cs, ty, fz, he, hAb, hb, hcs⟩ := hr.of_ref
  have hlen := EX.cs_length fr e
  have hget : ∀ k, k < 4 → ∃ u y, (e.cs fr)[k]? = some y ∧ cs[off0 + k]? = some u ∧ u.oneCell' = true ∧ Rd w0 A0 u y := fun k hk => by
    obtain ⟨y, hy⟩ : ∃ y, (e.cs fr)[k]? = some y := ⟨_, List.getElem?_eq_getElem (by omega)⟩
    obtain ⟨u, h1, h2, h3⟩ := hcs k y hy
    exact ⟨u, y, hy, h1, h2, h3⟩
  obtain ⟨u0, y0, q0, e0, n0, r0⟩ := hget 0 (by decide)
  obtain ⟨u1, y1, q1, e1, n1, r1⟩ := hget 1 (by decide)
  obtain ⟨u2, y2, q2, e2, n2, r2⟩ := hget 2 (by decide)
  obtain ⟨u3, y3, q3, e3, n3, r3⟩ := hget 3 (by decide)
  have hv0 : Rd w0 A0 (.agg #[u0, u1, u2, u3]) (.agg (e.cs fr)) := Rd.mk_agg (by rw [hlen]; rfl) fun k y hk => by
    match k with
    | 0 => rw [q0] at hk; cases hk; exact ⟨u0, rfl, n0, r0⟩
    | 1 => rw [q1] at hk; cases hk; exact ⟨u1, rfl, n1, r1⟩
    | 2 => rw [q2] at hk; cases hk; exact ⟨u2, rfl, n2, r2⟩
    | 3 => rw [q3] at hk; cases hk; exact ⟨u3, rfl, n3, r3⟩
    | k + 4 => rw [List.getElem?_eq_none (by omega)] at hk; cases hk
  have hbW : W.heap[b0]? = some (.cells cs ty fz) := (hR0 _ _ hAb).2.trans hb
  have hrW : Rd W A0 (.pointer (some ⟨b1, 0, none⟩)) (.ref true ([u0, u1, u2, u3].map AV.c)) := by
    rw [he]
    refine Rd.mk_ref hAb hbW fun k y hk => ?_
    match k with
    | 0 => cases hk; exact ⟨u0, e0, n0, .c _⟩
    | 1 => cases hk; exact ⟨u1, e1, n1, .c _⟩
    | 2 => cases hk; exact ⟨u2, e2, n2, .c _⟩
    | 3 => cases hk; exact ⟨u3, e3, n3, .c _⟩
    | k + 4 => cases hk
  have hHp : Hp W.heap.size (fps []) A0 [] W A0 := ⟨hm, fun _ _ h => h, fun _ _ h => .inl h, fun fr b hb => (hR0 fr b hb).1.1.lt, fun b hb => by simp [fps] at hb, by simp [fps], fun o ho => by cases ho⟩
  have hRd : RdL W A0 #[.func (.yield l) #[] #[], .pointer (some ⟨b1, 0, none⟩)] [.c (.func (.yield l) #[] #[]), .c (.pointer (some ⟨b1, 0, none⟩))] := ⟨rfl, fun i x hi => by
    match i with
    | 0 => cases hi; exact .c _
    | 1 => cases hi; exact .c _
    | i + 2 => cases hi⟩
  refine (callsIn_wide (n := 1)).2 ?_
  refine calls_raw (N := 6) Try.func28 rfl Try.ntmps28 ?_
  have hs0 := init_sat (rd := none) (N := 6) hHp hRd (by simp)
  have hs1 : SatA ⟨W, [], A0, none⟩ A0 ⟨6, initEnv 0 [.c (.func (.yield l) #[] #[]), .c (.pointer (some ⟨b1, 0, none⟩))], [], [(.pointer (some ⟨b1, 0, none⟩), .ref true ([u0, u1, u2, u3].map AV.c))], []⟩ _ W := ⟨hs0.size, hs0.defers, hs0.keep, hs0.hp, hs0.env, fun p hp => by obtain rfl := List.mem_singleton.1 hp; exact hrW⟩
  refine JLr.region_lit (P := Try.prog) (E := ⟨W, [], A0, none⟩) (JLr.q rfl rfl rfl (QW.load_ref ty32 (Ev.le (.tmp rfl) (.fact (List.mem_cons_self) (.refl _))) rfl rfl) (JLr.q rfl rfl rfl (QW.move (.tmp rfl)) (JLr.pre fun A' a' w' h' => ?_))) _ _ ⟨A0, hs1⟩
  have hg2 := grown_of_keep h' rfl
  have hk2 := (Kp.grown hg2 : Kp c W w') hkW.ok
  have hR' : ∀ fr b, A0 fr b → Sf c w' b ∧ w'.heap[b]? = w0.heap[b]? := fun fr b hb => by
    obtain ⟨g1, g2⟩ := hR0 fr b hb
    obtain ⟨g3, g4⟩ := g1.keep hk2
    exact ⟨g3, g4.trans g2⟩
  have hJg : ∀ s W W', Jv s W → W.grownBy W' none → Jv s W' := fun s A B hs hg => hJ s A B none hs hg (fun r e => by cases e)
  have hcall := each_n hm hJg hY e.sz e (.agg #[u0, u1, u2, u3]) [] w' (Nat.le_refl _) hv0 hw hfi hR' hk2.ok (hJg _ _ _ hJ0 hg2) (by simp)
  refine wp_call gofn29 (l := [.tmp 3, .tmp 4]) (R := fun e' W' => e' = .returned (.bool true) ∧ ∃ xs : List (EArg w0 A0 fr), xs.map (·.1.2) = e.parts ∧ Jv ([] ++ xs) W' ∧ Kp c w' W') ?_ ?_
  · have e3 : a'.eval (.tmp 3) = .agg #[u0, u1, u2, u3] := (h'.env 3 _ rfl).agg_c
    have e4 : a'.eval (.tmp 4) = .func (.yield l) #[] #[] := (h'.env 4 _ rfl).eq
    simp only [List.map_toArray, List.map_cons, List.map_nil, e3, e4]
    exact hcall
  · rintro e' W2 ⟨rfl, xs, hxs, hJ2, -⟩
    refine ⟨_, rfl, wpListIn_nil ?_⟩
    refine ⟨h'.defers, _, results_none rfl _ _ _, ⟨_, rfl⟩, xs, hxs, hJ2⟩
theorem EX.err_sz {e : EX} (h : e.err = 0) : e.sz ≤ 64 := by
  have h1 := EX.chk_sz e 1 0 h
  have h2 := (EX.chk_bounds e 1 0).2 (by omega)
  omega
def EncR (e : EX) : AV → List Own → Prop := fun x o => ∃ v, x = .tup [.c v, .c (.int .i64 e.err)] ∧ o = [.arr v eU8 (bytesAV (if e.err = 0 then e.enc else []))]
theorem enc_ok {fr : Bool} {e : EX} {ys : List AV} (hv : Xc fr e ys) (hw : e.wf) : AC Try.prog 16 [] [.agg ys] (RetR (EncR e)) := by
  subst hv
  refine AC.of_JM (N := 61) Try.func16 rfl Try.ntmps16 rfl fun w0 A0 a hlt hs => ?_
  have hnp : ∀ v own', ¬ RetR (EncR e) (.pan v) own' := fun v own' h => by obtain ⟨x, h, _⟩ := h; cases h
  refine wpIn_seq (wpIn_mono (J.region_lit (P := Try.prog) (Q := fun x s => x = .normal ∧ ∃ b1 en, s = ⟨61, (3, .c (.int .i64 0)) :: (2, .c (.slice none 0 0)) :: (1, .c (.pointer (some ⟨b1, 0, none⟩))) :: en, [.box b1 (e.cs fr)], [], []⟩)
    (JL.box_agg (.tmp rfl) rfl fun b1 => JL.q rfl rfl rfl (QW.assign .const) (JL.q rfl rfl rfl (QW.assign .const) (JL.nil ⟨rfl, b1, _, rfl⟩))) _ _ ⟨A0, hs⟩) ?_)
  rintro x a1 w1 ⟨s, ⟨rfl, b1, en, rfl⟩, hs1⟩
  simp only [Exit.then]
  refine wpIn_seq (wpIn_seq (wpIn_mono (J.region_lit (P := Try.prog) (Q := fun x s => x = .normal ∧ s = ⟨61, [(4, .c (.int .i64 e.err)), (3, .c (.int .i64 0)), (2, .c (.slice none 0 0)), (1, .c (.pointer (some ⟨b1, 0, none⟩)))], [.box b1 (e.cs fr)], [], []⟩)
    (JL.q rfl rfl rfl (QW.load_box 0 ty32 (.tmp rfl) rfl (take_at (EX.cs_length _ _) rfl) (EX.cs_length _ _)) (JL.q rfl rfl rfl (QW.call gofn25 (.cons (.tmp rfl) .nil) (echeck_ok Xc.self hw)) (JL.q rfl rfl rfl (QW.assign (.tmp rfl))
      (JL.weak (Wk.re (.cons rfl (.refl _) (.cons rfl (.refl _) (.cons rfl (.refl _) (.cons rfl (.refl _) .nil)))) (Reown.refl _) (fun _ h => h)) (JL.nil ⟨rfl, rfl⟩))))) _ _ hs1) ?_))
  rintro x a2 w2 ⟨s, ⟨rfl, rfl⟩, hs2⟩
  simp only [Exit.then]
  refine wpIn_seq (wpIn_mono (J.region_lit (P := Try.prog) (Q := fun x s => x = .normal ∧ s = ⟨61, [(11, .c (.bool (e.err != 0))), (4, .c (.int .i64 e.err)), (3, .c (.int .i64 0)), (2, .c (.slice none 0 0)), (1, .c (.pointer (some ⟨b1, 0, none⟩)))], [.box b1 (e.cs fr)], [], []⟩)
    (JL.q rfl rfl rfl (QW.move (.tmp rfl)) (JL.q rfl rfl rfl (QW.neq (.tmp rfl) .const)
      (JL.weak (Wk.re (.cons rfl (.refl _) (.cons rfl (.refl _) (.cons rfl (.refl _) (.cons rfl (.refl _) (.cons rfl (.refl _) .nil))))) (Reown.refl _) (fun _ h => h)) (JL.nil ⟨rfl, rfl⟩)))) _ _ hs2) ?_)
  rintro x a3 w3 ⟨s, ⟨rfl, rfl⟩, A3, hs3⟩
  simp only [Exit.then]
  refine wpIn_cond_split (hs3.env 11 _ rfl).eq (fun hne => ?_) fun hz => wpIn_skip ?_
  · -- it may not be
    have he : e.err ≠ 0 := by simpa using hne
    refine wpIn_mono ((?_ : J Try.prog ⟨w0, fps [], A0, none⟩ _ _ (fun x s => x = .ret ∧ retQ Try.prog Try.f16 (RetR (EncR e)) .ret s)) _ _ ⟨A3, hs3⟩) ?_
    · refine J.seq ?_
      refine J.region_lit ?_
      refine JL.q rfl rfl rfl (QW.move (.tmp rfl)) ?_
      refine JL.q rfl rfl rfl (QW.assign .const) ?_
      refine JL.q rfl rfl rfl (QW.assign (.tmp rfl)) ?_
      refine JL.nil ?_
      refine thenQ.n ?_
      refine J.reown (Reown.nilArr eU8 _) ?_
      refine J.ret ?_
      exact ⟨rfl, _, [_], [_], RetEv.two rfl (REv.tmp rfl (.refl _)) (REv.tmp rfl (.refl _)), rfl, .refl _, _, rfl, .slice none 0 0, rfl, by rw [if_neg he]; rfl⟩
    · rintro x a4 w4 ⟨s, ⟨rfl, hq⟩, hA⟩
      exact postM_of_retQ hnp ⟨s, hq, hA⟩
  · have he : e.err = 0 := by simpa using hz
    have hfi := EX.fine_of he
    have hsz := EX.err_sz he
    simp only [Exit.then]
    refine wpIn_seq (wpIn_mono (J.region_lit (P := Try.prog) (Q := fun x s => x = .normal ∧ ∃ b5, s = ⟨61, [(5, .c (.pointer (some ⟨b5, 0, none⟩))), (1, .c (.pointer (some ⟨b1, 0, none⟩)))], [.box b5 [.c (.slice none 0 0)], .box b1 (e.cs fr)], [], []⟩)
      (JL.alloc z40 rfl rfl fun b5 => (JL.weak (Wk.re (.cons rfl (.refl _) (.cons rfl (.refl _) .nil)) (Reown.refl _) (fun _ h => h)) (JL.nil ⟨rfl, b5, rfl⟩))) _ _ ⟨A3, hs3⟩) ?_)
    rintro x a4 w4 ⟨s, ⟨rfl, b5, rfl⟩, A4, hs4⟩
    simp only [Exit.then]
    obtain ⟨A5, hs5⟩ := hs4.close (i := 1) rfl Clos.box (fun b hb => by simp [fps] at hb)
    refine wpIn_seq (wpIn_seq (wpIn_mono (J.region_lit (P := Try.prog) (E := ⟨w0, fps [], A0, none⟩) (Q := fun x s => x = .normal ∧ s = ⟨61, [(13, .c (.func (.func 28) #[] #[.pointer (some ⟨b1, 0, none⟩)])), (5, .c (.pointer (some ⟨b5, 0, none⟩)))], encO b5 (.slice none 0 0, []), [(.pointer (some ⟨b1, 0, none⟩), .ref true (e.cs fr))], []⟩)
      (JL.q rfl rfl rfl (QW.mkFunc .nil (.cons (.tmp rfl) .nil)) (JL.weak (Wk.re (.cons rfl (.refl _) (.cons rfl (.refl _) .nil)) (Reown.nilArrE eU8 _) (fun _ h => h)) (JL.nil ⟨rfl, rfl⟩))) _ _ ⟨A5, hs5⟩) ?_))
    rintro x a6 w6 ⟨s, ⟨rfl, rfl⟩, A6, hs6⟩
    simp only [Exit.then]
    have hclo : a6.eval (.tmp 13) = .func (.func 28) #[] #[.pointer (some ⟨b1, 0, none⟩)] := (hs6.env 13 _ rfl).eq
    have hs7 := hs6.env' (env' := [(5, .c (.pointer (some ⟨b5, 0, none⟩)))]) (.cons rfl (.refl _) .nil)
    let A7 : Foot := fun fr b => A6 fr b ∧ isC w6 b
    have hwr : ∀ {W : World} {A : Foot} {s : Value × List UInt8}, (∀ o ∈ encO b5 s, o.ok W A) → ∀ k, wr b5 W k ↔ k ∈ fps (encO b5 s) := fun h k => wr_own (h _ (.head _)) k
    have hokE : ∀ {E : Ent} {W : World} {A : Foot} {a : Act} {n env F D} {s : Value × List UInt8}, SatA E A ⟨n, env, encO b5 s, F, D⟩ a W → OkW b5 W := fun h => ⟨h.ownC _ (by simp [encO, fps, Own.fp]), fun k hk => (h.hp.fp k ((hwr h.hp.own k).1 hk)).1⟩
    have hb5 : b5 < w6.heap.size := (hokE hs7).cel.lt
    have hm7 : ∀ b, A7 true b → A7 false b := fun b hb => ⟨hs7.hp.mono b hb.1, hb.2⟩
    have hS7 : ∀ fr b, A7 fr b → Sf b5 w6 b := fun fr b hb => ⟨hb.2, fun hw => (hs7.hp.fp b ((hwr hs7.hp.own b).1 hw)).2.2 fr hb.1⟩
    have hr7 : Rd w6 A7 (.pointer (some ⟨b1, 0, none⟩)) (.ref true (e.cs fr)) := (hs7.facts _ (.head _)).foot fun fr b h1 h2 => ⟨h1, h2⟩
    refine wpIn_block ?_
    refine range_wp (E := ⟨w0, fps [], A0, none⟩) (ow := encO b5) (p := encP (w0 := w6) (A0 := A7) (fr := fr)) (σ0 := (.slice none 0 0, [])) rfl rfl hs7 rfl hclo gofn28 rfl rfl (val := fun x => x.1.1) (av := fun x => .agg (x.1.2.cs fr))
      (fun x => x.2.1.move (fun fr b hb _ => hb.1) fun _ _ _ _ => rfl) (S := fun xs => xs.map (·.1.2) = e.parts) (N := e.sz) (Kp := Kp b5) Kp.trans (fun W l o o' hl h ho _ => Kp.putObj hb5 W l o o' hl h ho) ?_ (encSeq hm7 hS7 (hokE hs7) hr7 hw hfi)
      (encM b5 _) (fun l w1 A1 pre x t hp _ => encAssign hp) (fun l w1 A1 pre x s hM hlen => encBody hM (by omega)) ?_
    · intro W W' s s' A1 A2 h1 h2 hfp hk _
      refine ⟨hokE h2, hk.size, fun k hc hn => ?_⟩
      rw [hwr h1.hp.own] at hn
      refine ⟨hk.block k hc.lt (.inl hc) hn, fun h => ?_⟩
      rcases hfp k ((hwr h2.hp.own k).1 h) with h | h
      · exact hn h
      · have := hc.lt; omega
    · intro D' xs s A' W hS hp hD hW hsat
      simp only [Exit.inBlock, Exit.then]
      obtain ⟨v, l⟩ := s
      have hl : l = e.enc := by have : l = octL (xs.map (·.1.2)) := hp; rw [this, hS]; rfl
      have hn := hsat.newE none
      refine wpIn_mono ((?_ : J Try.prog ⟨W, fps (encO b5 (v, l)), A', none⟩ _ _ (fun x s => x = .ret ∧ ∃ en, s = ⟨61, (3, .c (.int .i64 0)) :: (2, .c v) :: en, encO b5 (v, l), [(.pointer (some ⟨b1, 0, none⟩), .ref true (e.cs fr))], [{ target := .collected D', args := #[] }]⟩)) _ _ ⟨A', hn⟩) ?_
      · refine J.seq ?_
        refine J.region_lit ?_
        refine JL.q rfl rfl rfl (QW.load_box1 0 ty40 (.tmp rfl) rfl rfl) ?_
        refine JL.q rfl rfl rfl (QW.assign (.tmp rfl)) ?_
        refine JL.q rfl rfl rfl (QW.assign .const) ?_
        refine JL.nil ?_
        refine thenQ.n ?_
        exact J.ret ⟨rfl, _, rfl⟩
      rintro x a8 W8 ⟨s, ⟨rfl, en, rfl⟩, A8, h8⟩
      refine ⟨.inr rfl, A8, _, _, [_], [_], hsat.up h8, RetEv.two rfl (REv.tmp rfl (.refl _)) (REv.tmp rfl (.refl _)), List.perm_append_comm (l₁ := [_]) (l₂ := [_]), ⟨_, rfl, v, by rw [he], by rw [if_pos he, hl]⟩, .inr ⟨D', rfl, ?_, ?_⟩⟩
      · refine (h8.keep.block D' (heap_lt hW) fun hm => ?_).trans hW
        obtain ⟨cs, t, fz, hc⟩ := hsat.ownC D' hm
        rw [hW] at hc; cases hc
      · exact Nat.le_trans hs6.keep.size hD
end Go.Proofs.Ytlppnhkjonmniaa.J

/- Walks: what is alive; ExprParts, ExprSame. -/
namespace Go.Proofs.Ytlppnhkjonmniaa.J
open Go Go.RowKit
set_option linter.unusedVariables false
set_option linter.unusedSimpArgs false
set_option maxRecDepth 10000
set_option maxHeartbeats 4000000
theorem EX.enc_len {e : EX} (h : e.err = 0) : e.enc.length ≤ 8320 := by
  have h1 := octL_len (l := e.parts)
  have hfi := EX.fine_of h
  have hsub : ∀ (m : Nat) (x : EX), x.sz ≤ m → x.Fine → ∀ y ∈ x.parts, y.Fine := by
    intro m
    induction m with
    | zero => intro x hx; exact absurd hx (by have := EX.sz_pos x; omega)
    | succ m ih =>
      intro x hx hf y hy
      obtain ⟨o, b, t, l⟩ := x
      have hL : ∀ (r : List EX), (∀ z ∈ r, z ∈ l) → ∀ y ∈ EX.partsL r, y.Fine := by
        intro r
        induction r with
        | nil => intro _ y hy; cases hy
        | cons z r ihr =>
          intro hr y hy
          rw [EX.partsL, List.mem_append] at hy
          rcases hy with hy | hy
          · have hz := hr z (by simp)
            refine ih z ?_ (hf.kid hz) y hy
            have := EX.szs_mem hz
            rw [EX.sz_mk] at hx; omega
          · exact ihr (fun q hq => hr q (by simp [hq])) y hy
      rw [EX.parts, List.mem_cons] at hy
      rcases hy with rfl | hy
      · exact hf
      · exact hL l (fun _ h => h) y hy
  have h2 := h1 (hsub e.sz e (Nat.le_refl _) hfi)
  have h3 := EX.err_sz h
  rw [EX.parts_len] at h2
  show (octL e.parts).length ≤ _
  omega
def encL (e : EX) : List UInt8 := if e.err = 0 then e.enc else []
theorem encL_len (e : EX) : (encL e).length ≤ 8320 := by
  unfold encL; split
  · rename_i h; exact EX.enc_len h
  · simp
def encAV (e : EX) : AV := .tup [.sl true false eU8 (bytesAV (encL e)), .c (.int .i64 e.err)]
theorem enc_rd {fr : Bool} {e : EX} {ys : List AV} (hv : Xc fr e ys) (hw : e.wf) : Fn Try.prog 16 [.agg ys] (encAV e) :=
  Fn.close (enc_ok hv hw) fun x o ⟨v, hx, ho⟩ => by
    rw [show (if e.err = 0 then e.enc else []) = encL e from rfl] at ho
    subst hx ho
    exact ⟨[(v, .sl true false eU8 (bytesAV (encL e)))], fun w A hok hb p hp => Clos.arr (by rw [bytesAV_length]; have := encL_len e; show _ * 1 ≤ _; unfold reach; omega) w A (hok _ (by simp)) (fun b hb' => hb b (by simpa [fps_cons, fps_nil] using hb')) p hp, .tupL (.cons (.fact (by simp) (.refl _)) (.cons (.refl _) .nil))⟩
def xeA : EX := .mk 11 0 [] [.mk 5 0 [] [], .mk 3 0 [] []]
theorem xeA_wf : xeA.wf := .mk (by decide) (by decide) (by decide) (by decide) (fun x h => by simp at h; rcases h with rfl | rfl <;> exact .mk (by decide) (by decide) (by decide) (by decide) (fun _ h => by cases h))
theorem xeA_ok : encAV xeA = .tup [.sl true false eU8 (bytesAV [11, 5, 3, 0, 0, 0, 0, 0, 0, 0, 0]), .c (.int .i64 0)] := by
  have h1 : xeA.err = 0 := by decide
  have h2 : xeA.enc = [11, 5, 3, 0, 0, 0, 0, 0, 0, 0, 0] := by decide
  unfold encAV encL
  rw [if_pos h1, h1, h2]
theorem xeA_le {F : List (Value × AV)} : Le F (.agg [.c (.int .i64 11), .c (.int .u64 0), .c (str []), .sl true true et32 [(EX.mk 5 0 [] []).raw (.slice none 0 0), (EX.mk 3 0 [] []).raw (.slice none 0 0)]]) (.agg (xeA.cs true)) :=
  .aggL (.cons (.refl _) (.cons (.refl _) (.cons (.refl _) (.cons (.slL (fun h => h) rfl (EX.css_sz true [.mk 5 0 [] [], .mk 3 0 [] []]) (.cons (.refl _) (.cons (.refl _) (.cons (.refl _) (.cons (.nil true false _) (.cons (.refl _) (.cons (.refl _) (.cons (.refl _) (.cons (.nil true false _) .nil))))))))) .nil))))
/-! ### the plain law of ExprParts -/
theorem alive14_ok : Fn Try.prog 8 [] (.c (.bool true)) := by
  refine AC.of_J Try.func8 rfl Try.ntmps8 rfl fun w0 A0 => ?_
  refine J.seq ?_
  refine J.region_lit ?_
  refine JL.q rfl rfl rfl (QW.assign .const) ?_
  refine JL.nil ?_
  refine thenQ.n ?_
  refine J.seq ?_
  refine J.region_lit ?_
  refine JL.q rfl rfl rfl (QW.build (idx := [0]) pl32 z32 rfl (.cons .const .nil) rfl rfl rfl rfl) ?_
  refine JL.q rfl rfl rfl (QW.build (idx := [0]) pl32 z32 rfl (.cons .const .nil) rfl rfl rfl rfl) ?_
  refine JL.q rfl rfl rfl (QW.buildSlice (idx := [0, 1]) (xs := [(EX.mk 5 0 [] []).raw (.slice none 0 0), (EX.mk 3 0 [] []).raw (.slice none 0 0)]) sl30 el32 z32 rfl (.cons (.tmp rfl) (.cons (.tmp rfl) .nil)) rfl rfl rfl rfl rfl rfl rfl rfl rfl) ?_
  refine JL.q rfl rfl rfl (QW.build (idx := [0, 3]) pl32 z32 rfl (.cons .const (.cons (.tmp rfl) .nil)) rfl rfl rfl rfl) ?_
  refine JL.q rfl rfl rfl (QW.call gofn16 (.cons (Ev.le (.tmp rfl) (xeA_le)) .nil) (xeA_ok ▸ enc_rd (fr := true) (e := xeA) Xc.self xeA_wf)) ?_
  refine JL.q rfl rfl rfl (QW.move (.tmp rfl)) ?_
  refine JL.q rfl rfl rfl (QW.extract (.tmp rfl) rfl) ?_
  refine JL.q rfl rfl rfl (QW.extract (.tmp rfl) rfl) ?_
  refine JL.q rfl rfl rfl (QW.assign (.tmp rfl)) ?_
  refine JL.q rfl rfl rfl (QW.assign (.tmp rfl)) ?_
  refine JL.nil ?_
  refine thenQ.n ?_
  refine J.seq ?_
  refine J.region_lit ?_
  refine JL.q rfl rfl rfl (QW.move (.tmp rfl)) ?_
  refine JL.q rfl rfl rfl (QW.call gofn11 (.cons (.tmp rfl) .nil) (num14_ok _)) ?_
  refine JL.q rfl rfl rfl (QW.eql (.tmp rfl) .const) ?_
  refine JL.q rfl rfl rfl (QW.move (.tmp rfl)) ?_
  refine JL.g rfl rfl rfl rfl rfl (fun hg => (QW.move (.tmp rfl))) ?_
  refine JL.g rfl rfl rfl rfl rfl (fun hg => (QW.bytes_str sl40 st9 iu5 (.when rfl hg))) ?_
  refine JL.g rfl rfl rfl rfl rfl (fun hg => (QW.eql_s (.when rfl hg) .const)) ?_
  refine JL.q rfl rfl rfl (QW.pick_and (.tmp rfl) (.tmp rfl)) ?_
  refine JL.q rfl rfl rfl (QW.assign (.tmp rfl)) ?_
  refine JL.nil ?_
  refine thenQ.n ?_
  refine J.ret ?_
  exact ⟨_, selP [] _, _, RetEv.one rfl (REv.tmp rfl (.refl _)), rfl, sel_perm [] _, ⟨rfl, rfl⟩⟩
end Go.Proofs.Ytlppnhkjonmniaa.J

/- Expressions from octets, as plain data. -/
namespace Go.Proofs.Ytlppnhkjonmniaa.J
open Go Go.RowKit
set_option linter.unusedVariables false
set_option linter.unusedSimpArgs false
def beV (l : List UInt8) : Nat := l.foldl (fun a x => a * 256 + x.toNat) 0
theorem beV_snoc (l : List UInt8) (x : UInt8) : beV (l ++ [x]) = beV l * 256 + x.toNat := by simp [beV]
theorem beV_acc : ∀ (l : List UInt8) (a : Nat), l.foldl (fun a x => a * 256 + x.toNat) a < (a + 1) * 256 ^ l.length
  | [], a => by simp
  | x :: l, a => by
    have h := beV_acc l (a * 256 + x.toNat)
    have hx := UInt8.toNat_lt x
    rw [List.foldl_cons, List.length_cons, Nat.pow_succ]
    refine Nat.lt_of_lt_of_le h ?_
    rw [show (a + 1) * (256 ^ l.length * 256) = ((a + 1) * 256) * 256 ^ l.length by rw [Nat.mul_comm (256 ^ l.length) 256, Nat.mul_assoc]]
    exact Nat.mul_le_mul_right _ (by omega)
theorem beV_lt (l : List UInt8) : beV l < 256 ^ l.length := by have := beV_acc l 0; simpa [beV] using this
theorem beV_be8 {b : Nat} (h : b < 2 ^ 64) : beV (be8 b) = b := by
  have e : be8 b = [UInt8.ofNat (b / 2 ^ 56 % 256), UInt8.ofNat (b / 2 ^ 48 % 256), UInt8.ofNat (b / 2 ^ 40 % 256), UInt8.ofNat (b / 2 ^ 32 % 256), UInt8.ofNat (b / 2 ^ 24 % 256), UInt8.ofNat (b / 2 ^ 16 % 256), UInt8.ofNat (b / 2 ^ 8 % 256), UInt8.ofNat (b / 2 ^ 0 % 256)] := rfl
  have t : ∀ n : Nat, (UInt8.ofNat (n % 256)).toNat = n % 256 := fun n => by simp
  rw [e]
  simp only [beV, List.foldl_cons, List.foldl_nil, t]
  omega
theorem be8_beV {l : List UInt8} (h : l.length = 8) : be8 (beV l) = l := by
  match l, h with
  | [a0, a1, a2, a3, a4, a5, a6, a7], _ =>
    have h0 := UInt8.toNat_lt a0; have h1 := UInt8.toNat_lt a1; have h2 := UInt8.toNat_lt a2; have h3 := UInt8.toNat_lt a3
    have h4 := UInt8.toNat_lt a4; have h5 := UInt8.toNat_lt a5; have h6 := UInt8.toNat_lt a6; have h7 := UInt8.toNat_lt a7
    have hv : beV [a0, a1, a2, a3, a4, a5, a6, a7] = ((((((a0.toNat * 256 + a1.toNat) * 256 + a2.toNat) * 256 + a3.toNat) * 256 + a4.toNat) * 256 + a5.toNat) * 256 + a6.toNat) * 256 + a7.toNat := by simp [beV]
    have e : ∀ b, be8 b = [UInt8.ofNat (b / 2 ^ 56 % 256), UInt8.ofNat (b / 2 ^ 48 % 256), UInt8.ofNat (b / 2 ^ 40 % 256), UInt8.ofNat (b / 2 ^ 32 % 256), UInt8.ofNat (b / 2 ^ 24 % 256), UInt8.ofNat (b / 2 ^ 16 % 256), UInt8.ofNat (b / 2 ^ 8 % 256), UInt8.ofNat (b / 2 ^ 0 % 256)] := fun _ => rfl
    rw [e, hv]
    have t : ∀ (n : Nat) (a : UInt8), n % 256 = a.toNat → UInt8.ofNat (n % 256) = a := fun n a h => by rw [h]; simp
    rw [t _ a0 (by omega), t _ a1 (by omega), t _ a2 (by omega), t _ a3 (by omega), t _ a4 (by omega), t _ a5 (by omega), t _ a6 (by omega), t _ a7 (by omega)]
/-- How many kids follow, but of a list. -/
def kidsN (o : Int) : Nat := if argsN o = -1 then 0 else (argsN o).toNat
/-- A part's own octets behind its first: bits, text, how many kids, what is left. -/
def hd2 (o : Int) (r : List UInt8) : Except Int (Nat × Str × Nat × List UInt8) :=
  if o = 3 then (if r.length < 8 then .error 8 else if canonN (beV (r.take 8)) ≠ beV (r.take 8) then .error 1 else .ok (beV (r.take 8), [], 0, r.drop 8))
  else if o = 4 ∨ o = 8 ∨ o = 25 then
    match r with
    | [] => .error 8
    | k :: r2 => if (k.toNat : Int) < textLo o ∨ textHi o < (k.toNat : Int) then .error 5 else if r2.length < k.toNat then .error 8 else .ok (0, r2.take k.toNat, kidsN o, r2.drop k.toNat)
  else if o = 23 then
    match r with
    | [] => .error 8
    | n :: r2 => if 8 < n.toNat then .error 3 else .ok (0, [], n.toNat, r2)
  else .ok (0, [], kidsN o, r)
def decKids (f : List UInt8 → Int → Except Int (EX × List UInt8 × Int)) : Nat → List UInt8 → Int → Except Int (List EX × List UInt8 × Int)
  | 0, r, p => .ok ([], r, p)
  | n + 1, r, p => match f r p with
    | .error e => .error e
    | .ok (x, r1, p1) => match decKids f n r1 p1 with
      | .error e => .error e
      | .ok (l, r2, p2) => .ok (x :: l, r2, p2)
/-- So many levels may still come. -/
def dec : Nat → List UInt8 → Int → Except Int (EX × List UInt8 × Int)
  | 0, _, _ => .error 10
  | m + 1, r, p => match r with
    | [] => .error 8
    | a :: r1 => if argsN (a.toNat : Int) = -2 then .error 22 else
      match hd2 (a.toNat : Int) r1 with
      | .error e => .error e
      | .ok (b, t, n, r2) => match decKids (dec m) n r2 (p + 1) with
        | .error e => .error e
        | .ok (l, r3, p3) => .ok (.mk (a.toNat : Int) b t l, r3, p3)
def decErr {α : Type} : Except Int α → Int
  | .error e => e
  | .ok _ => 0
theorem argsN_cases (o : Int) : argsN o = -2 ∨ argsN o = -1 ∨ (0 ≤ argsN o ∧ argsN o ≤ 3) := by
  unfold argsN; (repeat' split) <;> omega
theorem kidsN_le (o : Int) : kidsN o ≤ 3 := by
  have := argsN_cases o
  unfold kidsN; split <;> omega
theorem hd2_n {o : Int} {r : List UInt8} {b : Nat} {t : Str} {n : Nat} {r2 : List UInt8} (h : hd2 o r = .ok (b, t, n, r2)) : n ≤ 8 ∧ r2.length ≤ r.length ∧ b < 2 ^ 64 ∧ t.length ≤ 255 := by
  unfold hd2 at h
  split at h
  · split at h
    · cases h
    · split at h
      · cases h
      · rename_i h1 _
        cases h
        have := beV_lt (r.take 8)
        rw [List.length_take, show min 8 r.length = 8 by omega] at this
        exact ⟨by omega, by simp, by omega, by simp⟩
  · split at h
    · split at h
      · cases h
      · split at h
        · cases h
        · split at h
          · cases h
          · rename_i k r2' _ _
            cases h
            have := UInt8.toNat_lt k
            have := kidsN_le o
            exact ⟨by omega, by simp; omega, by omega, by simp; omega⟩
    · split at h
      · split at h
        · cases h
        · split at h
          · cases h
          · cases h; exact ⟨by omega, by simp, by omega, by simp⟩
      · cases h; have := kidsN_le o; exact ⟨by omega, Nat.le_refl _, by omega, by simp⟩
theorem EX.oct1_mk {o : Int} {b : Nat} {t : Str} {l : List EX} : (EX.mk o b t l).oct1 = UInt8.ofNat o.toNat :: (if o = 3 then be8 b else if o = 4 ∨ o = 8 ∨ o = 25 then UInt8.ofNat t.length :: t else if o = 23 then [UInt8.ofNat l.length] else []) := rfl
theorem EX.ok_mk {o : Int} {b : Nat} {t : Str} {l : List EX} : (EX.mk o b t l).ok = (decide (argsN o ≠ -2) && (argsN o == -1 || ((l.length : Int) == argsN o)) && decide ((l.length : Int) ≤ 8) && decide (textLo o ≤ t.length) && decide ((t.length : Int) ≤ textHi o) && (if o = 3 then canonN b == b else b == 0)) := rfl
/-- A part's own octets, and the part's own form. -/
theorem hd2_sound {o : Int} {r : List UInt8} {b : Nat} {t : Str} {n : Nat} {r2 : List UInt8} (ho : 0 ≤ o ∧ o < 256) (ha : argsN o ≠ -2) (h : hd2 o r = .ok (b, t, n, r2)) (l : List EX) (hl : l.length = n) :
    (EX.mk o b t l).ok = true ∧ UInt8.ofNat o.toNat :: r = (EX.mk o b t l).oct1 ++ r2 := by
  have hok : ∀ {b : Nat} {t : Str}, (argsN o = -1 ∨ (l.length : Int) = argsN o) → (l.length : Int) ≤ 8 → textLo o ≤ (t.length : Int) → (t.length : Int) ≤ textHi o → (if o = 3 then canonN b == b else b == 0) = true → (EX.mk o b t l).ok = true := fun h1 h2 h3 h4 h5 => by
    simp only [EX.ok_mk, Bool.and_eq_true, Bool.or_eq_true, decide_eq_true_eq, beq_iff_eq]
    exact ⟨⟨⟨⟨⟨ha, h1⟩, h2⟩, h3⟩, h4⟩, h5⟩
  have hkn : ∀ {m : Nat}, m = kidsN o → argsN o = -1 ∨ (m : Int) = argsN o := fun {m} hm => by
    have := argsN_cases o
    unfold kidsN at hm
    split at hm
    · left; assumption
    · right; omega
  have hk3 := kidsN_le o
  unfold hd2 at h
  split at h
  · rename_i h3
    subst h3
    split at h
    · cases h
    · split at h
      · cases h
      · rename_i h1 h2
        cases h
        refine ⟨hok (.inr (by rw [hl]; rfl)) (by omega) (by decide) (by decide) (by simpa using h2), ?_⟩
        rw [show (EX.mk 3 (beV (r.take 8)) [] l).oct1 = UInt8.ofNat (3 : Int).toNat :: be8 (beV (r.take 8)) from rfl, be8_beV (by rw [List.length_take]; omega)]
        simp
  · rename_i h3
    split at h
    · rename_i h4
      split at h
      · cases h
      · split at h
        · cases h
        · split at h
          · cases h
          · rename_i k r2' h5 h6
            cases h
            have hlen : (r2'.take k.toNat).length = k.toNat := by rw [List.length_take]; omega
            refine ⟨hok (hkn hl) (by omega) (by rw [hlen]; omega) (by rw [hlen]; omega) (by rw [if_neg h3]; rfl), ?_⟩
            have : (EX.mk o 0 (r2'.take k.toNat) l).oct1 = UInt8.ofNat o.toNat :: UInt8.ofNat (r2'.take k.toNat).length :: r2'.take k.toNat := by
              rw [EX.oct1_mk, if_neg h3, if_pos h4]
            rw [this, hlen]; simp
    · rename_i h4
      split at h
      · rename_i h5
        subst h5
        split at h
        · cases h
        · split at h
          · cases h
          · rename_i k r2' h6
            cases h
            refine ⟨hok (.inl rfl) (by omega) (by decide) (by decide) (by decide), ?_⟩
            have : (EX.mk 23 0 [] l).oct1 = [UInt8.ofNat (23 : Int).toNat, UInt8.ofNat l.length] := rfl
            rw [this, hl]; simp
      · rename_i h5
        cases h
        have hz : textLo o = 0 ∧ textHi o = 0 := by unfold textLo textHi; constructor <;> (repeat' split) <;> omega
        refine ⟨hok (hkn hl) (by omega) (by rw [hz.1]; simp) (by rw [hz.2]; simp) (by rw [if_neg h3]; rfl), ?_⟩
        have : (EX.mk o 0 [] l).oct1 = [UInt8.ofNat o.toNat] := by
          rw [EX.oct1_mk, if_neg h3, if_neg h4, if_neg h5]
        rw [this]; rfl
theorem hd2_complete {o : Int} {b : Nat} {t : Str} {l : List EX} (h : (EX.mk o b t l).ok = true) (hb : b < 2 ^ 64) (r : List UInt8) : argsN o ≠ -2 ∧ hd2 o ((EX.mk o b t l).oct1.tail ++ r) = .ok (b, t, l.length, r) := by
  have hbd := EX.ok_bounds h
  simp only [EX.ok_mk, Bool.and_eq_true, Bool.or_eq_true, decide_eq_true_eq, beq_iff_eq] at h
  obtain ⟨⟨⟨⟨⟨h1, h2⟩, h3⟩, h4⟩, h5⟩, h6⟩ := h
  have hc := argsN_cases o
  refine ⟨h1, ?_⟩
  have hkn : argsN o ≠ -1 → kidsN o = l.length := fun h => by
    unfold kidsN
    rw [if_neg h]
    rcases h2 with h2 | h2
    · exact absurd h2 h
    · omega
  rw [EX.oct1_mk, List.tail_cons]
  unfold hd2
  by_cases o3 : o = 3
  · subst o3
    rw [if_pos rfl] at h6 ⊢
    rw [if_pos rfl, if_neg (by simp [be8_length])]
    have ht : (be8 b ++ r).take 8 = be8 b := by rw [List.take_append_of_le_length (by simp [be8_length])]; exact List.take_of_length_le (by simp [be8_length])
    have hdp : (be8 b ++ r).drop 8 = r := by rw [List.drop_append_of_le_length (by simp [be8_length]), List.drop_of_length_le (by simp [be8_length])]; rfl
    have h6' : canonN b = b := by simpa using h6
    rw [ht, hdp, beV_be8 hb, if_neg (by simp [h6'])]
    have hl0 : l.length = 0 := by rw [← hkn (by decide)]; rfl
    have ht0 : t = [] := by
      have : textHi 3 = 0 := rfl
      rw [this] at h5
      exact List.length_eq_zero_iff.1 (by omega)
    rw [hl0, ht0]
  · rw [if_neg o3] at h6 ⊢
    rw [if_neg o3]
    have hb0 : b = 0 := by simpa using h6
    by_cases o4 : o = 4 ∨ o = 8 ∨ o = 25
    · rw [if_pos o4, if_pos o4]
      have hk : (UInt8.ofNat t.length).toNat = t.length := by simp; omega
      simp only [List.cons_append]
      rw [hk, if_neg (by omega), if_neg (by simp), List.take_left, List.drop_left, hkn (by unfold argsN; (repeat' split) <;> omega), hb0]
    · rw [if_neg o4, if_neg o4]
      have ht0 : t = [] := by
        have : textHi o = 0 := by unfold textHi; (repeat' split) <;> omega
        rw [this] at h5
        exact List.length_eq_zero_iff.1 (by omega)
      by_cases o5 : o = 23
      · subst o5
        rw [if_pos rfl, if_pos rfl]
        have hk : (UInt8.ofNat l.length).toNat = l.length := by simp; omega
        simp only [List.cons_append, List.nil_append]
        rw [hk, if_neg (by omega), hb0, ht0]
      · rw [if_neg o5, if_neg o5, hkn (fun h => by unfold argsN at h; (repeat' split at h) <;> omega), hb0, ht0]; rfl
end Go.Proofs.Ytlppnhkjonmniaa.J

/- Expressions and their octets: back and forth, cut off, with more behind. -/
namespace Go.Proofs.Ytlppnhkjonmniaa.J
open Go Go.RowKit
set_option linter.unusedVariables false
set_option linter.unusedSimpArgs false
def EX.encs (l : List EX) : List UInt8 := octL (EX.partsL l)
theorem EX.enc_mk {o : Int} {b : Nat} {t : Str} {l : List EX} : (EX.mk o b t l).enc = (EX.mk o b t l).oct1 ++ EX.encs l := by
  unfold EX.enc EX.encs; rw [EX.parts]; simp [octL]
theorem EX.encs_cons (x : EX) (l : List EX) : EX.encs (x :: l) = x.enc ++ EX.encs l := by
  unfold EX.encs EX.enc; rw [EX.partsL, octL_append]
theorem octL_ge : ∀ l : List EX, l.length ≤ (octL l).length
  | [] => Nat.le_refl _
  | e :: l => by
    have := octL_ge l
    simp only [octL, List.flatMap_cons, List.length_append, List.length_cons, EX.oct1] at this ⊢
    omega
mutual
theorem EX.parts_len' : ∀ e : EX, e.parts.length = e.sz
  | .mk o b t l => by have := EX.partsL_len' l; simp only [EX.parts, EX.sz, List.length_cons]; omega
theorem EX.partsL_len' : ∀ l : List EX, (EX.partsL l).length = EX.szs l
  | [] => rfl
  | x :: r => by have h1 := EX.parts_len' x; have h2 := EX.partsL_len' r; simp only [EX.partsL, EX.szs, List.length_append]; omega
end
theorem EX.enc_ge (e : EX) : e.sz ≤ e.enc.length := by rw [← EX.parts_len']; exact octL_ge _
theorem dec_complete : ∀ (m : Nat) (e : EX), e.Fine → e.wf → e.depth ≤ m → ∀ r p, dec m (e.enc ++ r) p = .ok (e, r, p + e.sz)
  | 0, e, hf, hw, hd, r, p => by have := EX.depths_nonneg e.args; obtain ⟨o, b, t, l⟩ := e; unfold EX.depth at hd; simp only [EX.args] at this; omega
  | m + 1, .mk o b t l, hf, hw, hd, r, p => by
    have hb := hw.inv.2.1
    have hbd := hf.bounds
    simp only [EX.op] at hbd
    have hc := hd2_complete hf.part hb (EX.encs l ++ r)
    have hkids : ∀ (q : List EX), (∀ x ∈ q, x ∈ l) → ∀ p, decKids (dec m) q.length (EX.encs q ++ r) p = .ok (q, r, p + EX.szs q) := by
      intro q
      induction q with
      | nil => intro _ p; simp [decKids, EX.encs, EX.partsL, octL, EX.szs]
      | cons x q ih =>
        intro hq p
        have hx := hq x (by simp)
        have hdx : x.depth ≤ m := by
          have h1 : ∀ {l : List EX}, x ∈ l → x.depth ≤ EX.depths l := by
            intro l
            induction l with
            | nil => intro h; cases h
            | cons y l ihl =>
              intro h
              unfold EX.depths
              rcases List.mem_cons.1 h with rfl | h
              · omega
              · have := ihl h; omega
          have := h1 hx
          unfold EX.depth at hd; omega
        have h2 := dec_complete m x (hf.kid hx) (hw.inv.2.2.2.2 x hx) hdx (EX.encs q ++ r) p
        rw [EX.encs_cons, List.append_assoc, List.length_cons]
        simp only [decKids, h2, ih (fun y hy => hq y (by simp [hy]))]
        simp only [EX.szs]; congr 3; omega
    have h3 := hkids l (fun _ h => h) (p + 1)
    have ho : (UInt8.ofNat o.toNat).toNat = o.toNat := by simp; omega
    have hot : ((o.toNat : Nat) : Int) = o := by omega
    rw [EX.enc_mk, List.append_assoc]
    have hh : (EX.mk o b t l).oct1 = UInt8.ofNat o.toNat :: (EX.mk o b t l).oct1.tail := rfl
    rw [hh, List.cons_append]
    simp only [dec]
    rw [ho, hot, if_neg hc.1, hc.2]
    simp only [h3, EX.sz]
    congr 3; omega
theorem dec_sound : ∀ (m : Nat) (s : List UInt8) (p : Int) (e : EX) (r : List UInt8) (p' : Int), dec m s p = .ok (e, r, p') → s = e.enc ++ r ∧ e.Fine ∧ e.wf ∧ e.depth ≤ m ∧ p' = p + e.sz
  | 0, s, p, e, r, p', h => by cases h
  | m + 1, [], p, e, r, p', h => by simp [dec] at h
  | m + 1, a :: r1, p, e, r, p', h => by
    simp only [dec] at h
    split at h
    · cases h
    · rename_i ha
      split at h
      · cases h
      · rename_i b t n r2 hh
        split at h
        · cases h
        · rename_i l r3 p3 hk
          cases h
          have hkids : ∀ (n : Nat) (s : List UInt8) (p : Int) (l : List EX) (r : List UInt8) (p' : Int), decKids (dec m) n s p = .ok (l, r, p') → l.length = n ∧ s = EX.encs l ++ r ∧ (∀ x ∈ l, x.Fine ∧ x.wf ∧ x.depth ≤ m) ∧ p' = p + EX.szs l := by
            intro n
            induction n with
            | zero => intro s p l r p' h; cases h; exact ⟨rfl, by simp [EX.encs, EX.partsL, octL], fun x hx => (by cases hx), by simp [EX.szs]⟩
            | succ n ih =>
              intro s p l r p' h
              simp only [decKids] at h
              split at h
              · cases h
              · rename_i x r1' p1 hx
                split at h
                · cases h
                · rename_i l' r2' p2 hl
                  cases h
                  obtain ⟨g1, g2, g3, g4, g5⟩ := dec_sound m _ _ _ _ _ hx
                  obtain ⟨k1, k2, k3, k4⟩ := ih _ _ _ _ _ hl
                  refine ⟨by simp [k1], by rw [EX.encs_cons, List.append_assoc, ← k2]; exact g1, fun y hy => ?_, by simp only [EX.szs]; omega⟩
                  rcases List.mem_cons.1 hy with rfl | hy
                  · exact ⟨g2, g3, g4⟩
                  · exact k3 y hy
          obtain ⟨k1, k2, k3, k4⟩ := hkids _ _ _ _ _ _ hk
          have hn := hd2_n hh
          have ha256 := UInt8.toNat_lt a
          obtain ⟨s1, s2⟩ := hd2_sound (by omega) ha hh l k1
          have hta : UInt8.ofNat (Int.toNat (a.toNat : Int)) = a := by simp
          rw [hta] at s2
          have hdep : ∀ {l : List EX}, (∀ x ∈ l, x.depth ≤ m) → EX.depths l ≤ m := by
            intro l
            induction l with
            | nil => intro _; unfold EX.depths; omega
            | cons y l ihl =>
              intro h
              unfold EX.depths
              have := h y (by simp); have := ihl (fun x hx => h x (by simp [hx])); omega
          have hd := hdep (fun x hx => (k3 x hx).2.2)
          refine ⟨by rw [EX.enc_mk, List.append_assoc, ← k2]; exact s2, .mk s1 fun x hx => (k3 x hx).1, .mk (by omega) hn.2.2.1 (by unfold reach; omega) (by unfold reach; omega) fun x hx => (k3 x hx).2.1, by unfold EX.depth; omega, by simp only [EX.sz]; omega⟩
mutual
theorem EX.chk_of : ∀ (e : EX) (lev n : Int), e.Fine → lev + e.depth ≤ 9 → n + e.sz ≤ 64 → (e.chk lev n).1 = 0
  | .mk o b t l, lev, n, hf, h1, h2 => by
    have h0 := EX.depths_nonneg l
    unfold EX.depth at h1
    simp only [EX.sz] at h2
    unfold EX.chk
    rw [if_neg (by omega), if_neg (by omega), if_neg (by simp [hf.part])]
    exact EX.chks_of l lev (n + 1) (fun x hx => hf.kid hx) (by omega) (by omega)
theorem EX.chks_of : ∀ (l : List EX) (lev n : Int), (∀ x ∈ l, x.Fine) → lev + EX.depths l ≤ 8 → n + EX.szs l ≤ 64 → (EX.chks l lev n).1 = 0
  | [], lev, n, hf, h1, h2 => rfl
  | x :: r, lev, n, hf, h1, h2 => by
    unfold EX.depths at h1
    simp only [EX.szs] at h2
    have hx := EX.chk_of x (lev + 1) n (hf x (by simp)) (by omega) (by omega)
    unfold EX.chks
    rw [if_neg (by simp [hx])]
    exact EX.chks_of r lev _ (fun y hy => hf y (by simp [hy])) (by omega) (by rw [EX.chk_sz x (lev + 1) n hx]; omega)
end
theorem dec_err : ∀ (m : Nat) (s : List UInt8) (p : Int) (c : Int), dec m s p = .error c → c ≠ 0
  | 0, s, p, c, h => by cases h; decide
  | m + 1, [], p, c, h => by simp only [dec] at h; cases h; decide
  | m + 1, a :: r1, p, c, h => by
    have hh2 : ∀ {o : Int} {r : List UInt8} {c : Int}, hd2 o r = .error c → c ≠ 0 := by
      intro o r c h
      unfold hd2 at h
      repeat' split at h
      all_goals first | (cases h; decide) | cases h
    have hkids : ∀ (n : Nat) (s : List UInt8) (p : Int) (c : Int), decKids (dec m) n s p = .error c → c ≠ 0 := by
      intro n
      induction n with
      | zero => intro s p c h; cases h
      | succ n ih =>
        intro s p c h
        simp only [decKids] at h
        split at h
        · rename_i hx; cases h; exact dec_err m _ _ _ hx
        · split at h
          · rename_i hx; cases h; exact ih _ _ _ hx
          · cases h
    simp only [dec] at h
    split at h
    · cases h; decide
    · split at h
      · rename_i hx; cases h; exact hh2 hx
      · split at h
        · rename_i hx; cases h; exact hkids _ _ _ _ hx
        · cases h
/-- What octets are read as. -/
def decV (b : List UInt8) : EX × Int := match dec 8 b 0 with
  | .error c => (EX.nil, c)
  | .ok (e, r, p) => if r ≠ [] then (EX.nil, 23) else if 64 < p then (EX.nil, 3) else (e, 0)
theorem EX.err_facts {e : EX} (h : e.err = 0) : e.Fine ∧ e.depth ≤ 8 ∧ e.sz ≤ 64 := by
  have h1 := EX.chk_depth e 1 0 h
  have h2 := EX.chk_sz e 1 0 h
  have h3 := (EX.chk_bounds e 1 0).2 (by omega)
  exact ⟨EX.fine_of h, by omega, by omega⟩
theorem decV_enc {e : EX} (hw : e.wf) (h : e.err = 0) : decV e.enc = (e, 0) := by
  obtain ⟨hf, hd, hs⟩ := EX.err_facts h
  have := dec_complete 8 e hf hw hd [] 0
  rw [List.append_nil] at this
  unfold decV
  rw [this]
  simp only [ne_eq, not_true_eq_false, if_false]
  rw [if_neg (by omega)]
theorem decV_ok {b : List UInt8} (h : (decV b).2 = 0) : (decV b).1.wf ∧ (decV b).1.err = 0 ∧ (decV b).1.enc = b := by
  unfold decV at h ⊢
  cases hd : dec 8 b 0 with
  | error c => rw [hd] at h; exact absurd h (dec_err _ _ _ _ hd)
  | ok v =>
    obtain ⟨e, r, p⟩ := v
    rw [hd] at h
    simp only at h ⊢
    by_cases hr : r = []
    · subst hr
      simp only [ne_eq, not_true_eq_false, if_false] at h ⊢
      by_cases hp : 64 < p
      · rw [if_pos hp] at h; cases h
      · rw [if_neg hp]
        obtain ⟨g1, g2, g3, g4, g5⟩ := dec_sound _ _ _ _ _ _ hd
        exact ⟨g3, EX.chk_of e 1 0 g2 (by omega) (by omega), by rw [g1, List.append_nil]⟩
    · rw [if_pos hr] at h; cases h
theorem decV_no {b : List UInt8} (h : (decV b).2 ≠ 0) : (decV b).1 = EX.nil := by
  unfold decV at h ⊢
  cases hd : dec 8 b 0 with
  | error c => rfl
  | ok v =>
    obtain ⟨e, r, p⟩ := v
    rw [hd] at h
    simp only at h ⊢
    split
    · rfl
    · split
      · rfl
      · rename_i h1 h2; rw [if_neg h1, if_neg h2] at h; exact absurd rfl h
theorem decV_wf (b : List UInt8) : (decV b).1.wf := by
  by_cases h : (decV b).2 = 0
  · exact (decV_ok h).1
  · rw [decV_no h]; exact EX.wf_nil
end Go.Proofs.Ytlppnhkjonmniaa.J

/- Walks: expressions from octets. -/
namespace Go.Proofs.Ytlppnhkjonmniaa.J
open Go Go.RowKit
set_option linter.unusedVariables false
set_option linter.unusedSimpArgs false
set_option maxRecDepth 10000
set_option maxHeartbeats 4000000
/-- The scanner's box: what is left, and how many parts so far. -/
def sb (b : Nat) (r : List UInt8) (p : Int) : Own := .box b [.sl false false eU8 (bytesAV r), .c (.int .i64 p)]
theorem stake_ok {b : Nat} {r : List UInt8} {p : Int} (n : Nat) : AC Try.prog 38 [sb b r p] [.c (.pointer (some ⟨b, 0, none⟩)), .c (.int .i64 (n : Int))] (PanR (n ≤ r.length) (errV 8) fun x o => x = .sl false false eU8 (bytesAV (r.take n)) ∧ o = [sb b (r.drop n) p]) := by
  refine AC.of_J Try.func38 rfl Try.ntmps38 rfl fun w0 A0 => ?_
  refine J.seq ?_
  refine J.region_lit ?_
  refine JL.q rfl rfl rfl (QW.assign .const) ?_
  refine JL.nil ?_
  refine thenQ.n ?_
  refine J.seq ?_
  refine J.region_lit ?_
  refine JL.q rfl rfl rfl (QW.move (.tmp rfl)) ?_
  refine JL.q rfl rfl rfl (QW.move (.tmp rfl)) ?_
  refine JL.q rfl rfl rfl (QW.nil_ptr (.tmp rfl)) ?_
  refine JL.q rfl rfl rfl (QW.field_ptr fo63_0 (.tmp rfl) rfl) ?_
  refine JL.q rfl rfl rfl (QW.load_box1 0 ty40 (.tmp rfl) rfl rfl) ?_
  refine JL.q rfl rfl rfl (by first | exact QW.len_slE sl40 (.tmp rfl) (bytesAV_length _) | exact QW.len_slE sl40 (.tmp rfl) (EX.css_length _ _) | exact QW.len_sl sl40 (.tmp rfl) | exact QW.len_nil sl40 (.tmp rfl)) ?_
  refine JL.q rfl rfl rfl (QW.leq (.tmp rfl) (.tmp rfl)) ?_
  refine JL.callPF [] gofn32 rfl Lent.nil (fun _ => (.cons (.tmp rfl) (.cons .const .nil))) (need_ok _ _) (.inl rfl) (fun k13 x13 o13 h13 => ?_) (fun k13 => ?_)
  rotate_left
  · skip
    refine thenQ.p ?_
    exact ⟨_, selP [.k] _, _, rfl, rfl, sel_perm [.k] _, PanR.pan (by simpa [bytesAV_length] using k13)⟩
  obtain ⟨rfl, rfl⟩ := h13
  refine JL.nil ?_
  refine thenQ.n ?_
  refine J.seq ?_
  refine J.region_lit ?_
  have hle : n ≤ r.length := by simpa [bytesAV_length] using k13
  refine JL.q rfl rfl rfl (QW.move (.tmp rfl)) ?_
  refine JL.q rfl rfl rfl (QW.nil_ptr (.tmp rfl)) ?_
  refine JL.q rfl rfl rfl (QW.field_ptr fo63_0 (.tmp rfl) rfl) ?_
  refine JL.q rfl rfl rfl (QW.load_box1 0 ty40 (.tmp rfl) rfl rfl) ?_
  refine JL.q rfl rfl rfl (QW.move (.tmp rfl)) ?_
  refine JL.q rfl rfl rfl ((QW.slice_H sl40 ty5 rfl (.tmp rfl) (.tmp rfl) rfl (by rw [bytesAV_length]; exact hle)).conv (by rw [bytesAV_take])) ?_
  refine JL.q rfl rfl rfl (QW.assign (.tmp rfl)) ?_
  refine JL.nil ?_
  refine thenQ.n ?_
  refine J.seq ?_
  refine J.region_lit ?_
  refine JL.q rfl rfl rfl (QW.move (.tmp rfl)) ?_
  refine JL.q rfl rfl rfl (QW.move (.tmp rfl)) ?_
  refine JL.q rfl rfl rfl (QW.nil_ptr (.tmp rfl)) ?_
  refine JL.q rfl rfl rfl (QW.field_ptr fo63_0 (.tmp rfl) rfl) ?_
  refine JL.q rfl rfl rfl (QW.load_box1 0 ty40 (.tmp rfl) rfl rfl) ?_
  refine JL.q rfl rfl rfl (QW.move (.tmp rfl)) ?_
  refine JL.q rfl rfl rfl ((QW.slice_L sl40 ty5 rfl (.tmp rfl) (.tmp rfl) rfl (by rw [bytesAV_length]; exact hle)).conv (by rw [bytesAV_drop])) ?_
  refine JL.q rfl rfl rfl (QW.nil_ptr (.tmp rfl)) ?_
  refine JL.q rfl rfl rfl (QW.field_ptr fo63_0 (.tmp rfl) rfl) ?_
  refine JL.store_box 0 ty40 (.tmp rfl) rfl (.tmp rfl) (by first | rfl | assumption) rfl rfl rfl rfl ?_
  refine JL.nil ?_
  refine thenQ.n ?_
  refine J.seq ?_
  refine J.region_lit ?_
  refine JL.q rfl rfl rfl (QW.move (.tmp rfl)) ?_
  refine JL.q rfl rfl rfl (QW.assign (.tmp rfl)) ?_
  refine JL.nil ?_
  refine thenQ.n ?_
  refine J.ret ?_
  exact ⟨_, selP [.p] _, _, RetEv.one rfl (REv.tmp rfl (.refl _)), rfl, sel_perm [.p] _, PanR.ret hle ⟨rfl, rfl⟩⟩
theorem soctet_ok {b : Nat} {r : List UInt8} {p : Int} : AC Try.prog 36 [sb b r p] [.c (.pointer (some ⟨b, 0, none⟩))] (PanR (1 ≤ r.length) (errV 8) fun x o => x = .c (.int .i64 ((r.headD 0).toNat : Int)) ∧ o = [sb b (r.drop 1) p]) := by
  refine AC.of_J Try.func36 rfl Try.ntmps36 rfl fun w0 A0 => ?_
  refine J.seq ?_
  refine J.region_lit ?_
  refine JL.q rfl rfl rfl (QW.assign .const) ?_
  refine JL.nil ?_
  refine thenQ.n ?_
  refine J.seq ?_
  refine J.region_lit ?_
  refine JL.q rfl rfl rfl (QW.move (.tmp rfl)) ?_
  refine JL.callPF [.p] gofn38 rfl Lent.nil (fun _ => (.cons (.tmp rfl) (.cons .const .nil))) (stake_ok 1) (.inl rfl) (fun k4 x4 o4 h4 => ?_) (fun k4 => ?_)
  rotate_left
  · skip
    refine thenQ.p ?_
    exact ⟨_, selP [] _, _, rfl, rfl, sel_perm [] _, PanR.pan k4⟩
  obtain ⟨rfl, rfl⟩ := h4
  obtain ⟨x, r, rfl⟩ : ∃ x q, r = x :: q := by cases r with | nil => simp at k4 | cons x q => exact ⟨x, q, rfl⟩
  refine JL.q rfl rfl rfl (QW.index_sl (m := 0) sl40 ty5 rfl (.tmp rfl) .const rfl (by simp [bytesAV]; rfl)) ?_
  refine JL.q rfl rfl rfl (QW.load_ref1 ty5 (.tmp rfl) rfl) ?_
  refine JL.q rfl rfl rfl (QW.conv_int us5 iu3 (.tmp rfl) (c := (x.toNat : Int)) (w64n rfl (by have := UInt8.toNat_lt x; omega))) ?_
  refine JL.q rfl rfl rfl (QW.assign (.tmp rfl)) ?_
  refine JL.nil ?_
  refine thenQ.n ?_
  refine J.ret ?_
  exact ⟨_, selP [.p] _, _, RetEv.one rfl (REv.tmp rfl (.refl _)), rfl, sel_perm [.p] _, PanR.ret (by simp) ⟨rfl, rfl⟩⟩
def DecR (d : Except Int (EX × List UInt8 × Int)) (b : Nat) : Res → List Own → Prop := PanR (decErr d = 0) (errV (decErr d)) fun x o => ∃ e r p iv oi, d = .ok (e, r, p) ∧ x = .agg (e.raw iv) ∧ ETr e iv oi ∧ o = [sb b r p, oi]
theorem kids_step {f : List UInt8 → Int → Except Int (EX × List UInt8 × Int)} {n j : Nat} {r : List UInt8} {p : Int} (hj : j < n) : decKids f (n - j) r p = match f r p with
    | .error e => .error e
    | .ok (x, r1, p1) => match decKids f (n - (j + 1)) r1 p1 with
      | .error e => .error e
      | .ok (l, r2, p2) => .ok (x :: l, r2, p2) := by
  rw [show n - j = (n - (j + 1)) + 1 by omega]; rfl
/-- What the kids that are still to come make of those that came. -/
def joinK (l : List EX) : Except Int (List EX × List UInt8 × Int) → Except Int (List EX × List UInt8 × Int)
  | .error e => .error e
  | .ok (l2, r, p) => .ok (l ++ l2, r, p)
theorem dec_hd_err {m : Nat} {a : UInt8} {r : List UInt8} {p c : Int} (h : argsN (a.toNat : Int) ≠ -2) (hh : hd2 (a.toNat : Int) r = .error c) : decErr (dec (m + 1) (a :: r) p) = c := by
  simp only [dec]; rw [if_neg h, hh]; rfl
theorem dec_fail {m : Nat} {a : UInt8} {r : List UInt8} {p : Int} {bb : Nat} {t : Str} {n j : Nat} {r2 r3 : List UInt8} {p3 : Int} {l : List EX} (h : argsN (a.toNat : Int) ≠ -2) (hh : hd2 (a.toNat : Int) r = .ok (bb, t, n, r2))
    (hk : decKids (dec m) n r2 (p + 1) = joinK l (decKids (dec m) (n - j) r3 p3)) (hj : j < n) (he : ¬ decErr (dec m r3 p3) = 0) : decErr (dec (m + 1) (a :: r) p) = decErr (dec m r3 p3) := by
  rw [kids_step hj] at hk
  cases hd : dec m r3 p3 with
  | ok v => rw [hd] at he; exact absurd rfl he
  | error c =>
    rw [hd] at hk
    simp only [dec]; rw [if_neg h, hh]; simp only [hk, joinK]
theorem dec_next {m n j : Nat} {r2 r3 r' : List UInt8} {p p3 p' : Int} {l : List EX} {e : EX} (hk : decKids (dec m) n r2 (p + 1) = joinK l (decKids (dec m) (n - j) r3 p3)) (hj : j < n) (hd : dec m r3 p3 = .ok (e, r', p')) :
    decKids (dec m) n r2 (p + 1) = joinK (l ++ [e]) (decKids (dec m) (n - (j + 1)) r' p') := by
  rw [hk, kids_step hj, hd]
  simp only []
  generalize decKids (dec m) (n - (j + 1)) r' p' = z
  cases z with
  | error c => rfl
  | ok v => obtain ⟨l2, r, q⟩ := v; simp [joinK]
theorem dec_done {m : Nat} {a : UInt8} {r : List UInt8} {p : Int} {bb : Nat} {t : Str} {n : Nat} {r2 r3 : List UInt8} {p3 : Int} {l : List EX} (h : argsN (a.toNat : Int) ≠ -2) (hh : hd2 (a.toNat : Int) r = .ok (bb, t, n, r2))
    (hk : decKids (dec m) n r2 (p + 1) = joinK l (decKids (dec m) (n - n) r3 p3)) : dec (m + 1) (a :: r) p = .ok (.mk (a.toNat : Int) bb t l, r3, p3) := by
  rw [Nat.sub_self] at hk
  simp only [decKids, joinK, List.append_nil] at hk
  simp only [dec]; rw [if_neg h, hh]; simp only [hk]
theorem shLo_kids {o : Int} (h : argsN o ≠ -2) : shLo o = (kidsN o : Int) := by
  have := argsN_cases o
  unfold shLo kidsN
  split
  · rfl
  · first | omega | (rw [if_neg h]; omega)
theorem shl8 {v : Nat} (h : v < 2 ^ 56) : IntKind.u64.wrap ((v : Int) * 2 ^ (min (8 : Int).toNat IntKind.u64.bits)) = ((v * 256 : Nat) : Int) := by
  have e : (min (8 : Int).toNat IntKind.u64.bits) = 8 := rfl
  rw [e]
  have : ((v : Int) * 2 ^ 8) = ((v * 256 : Nat) : Int) := by omega
  rw [this]
  exact wu64 (by omega)
theorem or8 {v x : Nat} (h : v < 2 ^ 56) (hx : x < 256) : bitsOp .or .u64 ((v * 256 : Nat) : Int) (x : Int) = ((v * 256 + x : Nat) : Int) := by
  rw [bits_or _ _ (by omega) (by omega)]
  congr 1
  have := Nat.two_pow_add_eq_or_of_lt (i := 8) (b := x) (by omega) v
  rw [Nat.mul_comm v 256]
  exact this.symm
theorem sexpr_n  : ∀ (m : Nat) {b : Nat} {r : List UInt8} {p lev : Int}, lev = 9 - (m : Int) → m ≤ 8 → (0 ≤ p ∧ p + r.length ≤ 4611686018427387904) → AC Try.prog 31 [sb b r p] [.c (.pointer (some ⟨b, 0, none⟩)), .c (.int .i64 lev)] (DecR (dec m r p) b) := by
  intro m
  induction m using Nat.strongRecOn with
  | ind m ih =>
    intro b r p lev hl hm hp
    refine AC.of_J Try.func31 rfl Try.ntmps31 rfl fun w0 A0 => ?_
    refine J.seq ?_
    refine J.region_lit ?_
    refine JL.alloc z32 rfl rfl fun b4 => ?_
    refine JL.nil ?_
    refine thenQ.n ?_
    refine J.seq ?_
    refine J.region_lit ?_
    refine JL.q rfl rfl rfl (QW.move (.tmp rfl)) ?_
    refine JL.q rfl rfl rfl (QW.leq (.tmp rfl) .const) ?_
    refine JL.callPF [] gofn32 rfl Lent.nil (fun _ => (.cons (.tmp rfl) (.cons .const .nil))) (need_ok _ _) (.inl rfl) (fun k13 x13 o13 h13 => ?_) (fun k13 => ?_)
    rotate_left
    · skip
      refine thenQ.p ?_
      exact ⟨_, selP [.k, .k] _, _, rfl, rfl, sel_perm [.k, .k] _, PanR.of (by (obtain rfl : m = 0 := (by simp at k13; omega)); rfl) (by decide)⟩
    obtain ⟨rfl, rfl⟩ := h13
    refine JL.nil ?_
    refine thenQ.n ?_
    refine J.seq ?_
    refine J.region_lit ?_
    obtain ⟨m, rfl⟩ : ∃ k, m = k + 1 := ⟨m - 1, by simp at k13; omega⟩
    refine JL.q rfl rfl rfl (QW.move (.tmp rfl)) ?_
    refine JL.callPF [.k, .p] gofn36 rfl Lent.nil (fun _ => (.cons (.tmp rfl) .nil)) (soctet_ok) (.inl rfl) (fun k15 x15 o15 h15 => ?_) (fun k15 => ?_)
    rotate_left
    · skip
      refine thenQ.p ?_
      obtain rfl : r = [] := by cases r with | nil => rfl | cons x q => simp at k15
      exact ⟨_, selP [.k] _, _, rfl, rfl, sel_perm [.k] _, PanR.of rfl (by decide)⟩
    obtain ⟨rfl, rfl⟩ := h15
    obtain ⟨a, r, rfl⟩ : ∃ x q, r = x :: q := by cases r with | nil => simp at k15 | cons x q => exact ⟨x, q, rfl⟩
    have ha := UInt8.toNat_lt a
    refine JL.conv (by (try simp only [List.headD_cons, List.drop_succ_cons, List.drop_zero]); rfl) ?_
    refine JL.q rfl rfl rfl (QW.field_ptr fo32_0 (.tmp rfl) rfl) ?_
    refine JL.store_box 0 ty3 (.tmp rfl) rfl (.tmp rfl) (by first | rfl | assumption) rfl rfl rfl rfl ?_
    refine JL.nil ?_
    refine thenQ.n ?_
    refine J.seq ?_
    refine J.region_lit ?_
    refine JL.q rfl rfl rfl (QW.field_ptr fo32_0 (.tmp rfl) rfl) ?_
    refine JL.q rfl rfl rfl (QW.load_box1 0 ty3 (.tmp rfl) rfl rfl) ?_
    refine JL.q rfl rfl rfl (QW.call gofn37 (.cons (.tmp rfl) .nil) (shapeOf_ok _)) ?_
    refine JL.q rfl rfl rfl (QW.move (.tmp rfl)) ?_
    refine JL.q rfl rfl rfl (QW.extract (.tmp rfl) rfl) ?_
    refine JL.q rfl rfl rfl (QW.extract (.tmp rfl) rfl) ?_
    refine JL.alloc z71 rfl rfl fun b5 => ?_
    first | refine JL.store_boxF 0 ty71 (.tmp rfl) rfl (.tmp rfl) (by first | rfl | assumption) (rfl) (rfl) rfl ?_ | refine JL.store_box 0 ty71 (.tmp rfl) rfl (.tmp rfl) (by first | rfl | assumption) rfl rfl rfl rfl ?_
    refine JL.q rfl rfl rfl (QW.assign (.tmp rfl)) ?_
    refine JL.nil ?_
    refine thenQ.n ?_
    refine J.seq ?_
    refine J.region_lit ?_
    refine JL.q rfl rfl rfl (QW.move (.tmp rfl)) ?_
    refine JL.callPF [] gofn32 rfl Lent.nil (fun _ => (.cons (.tmp rfl) (.cons .const .nil))) (need_ok _ _) (.inl rfl) (fun k24 x24 o24 h24 => ?_) (fun k24 => ?_)
    rotate_left
    · skip
      refine thenQ.p ?_
      exact ⟨_, selP [.k, .k, .k] _, _, rfl, rfl, sel_perm [.k, .k, .k] _, PanR.of (by simp only [dec]; rw [if_pos (by simpa using k24)]; rfl) (by decide)⟩
    obtain ⟨rfl, rfl⟩ := h24
    refine JL.nil ?_
    refine thenQ.n ?_
    refine J.seq ?_
    refine J.region_lit ?_
    have hsh : argsN (a.toNat : Int) ≠ -2 := by simpa using k24
    refine JL.q rfl rfl rfl (QW.move (.tmp rfl)) ?_
    refine JL.q rfl rfl rfl (QW.nil_ptr (.tmp rfl)) ?_
    refine JL.q rfl rfl rfl (QW.field_ptr fo63_1 (.tmp rfl) rfl) ?_
    refine JL.q rfl rfl rfl (QW.load_box1 2 ty3 (.tmp rfl) rfl rfl) ?_
    refine JL.q rfl rfl rfl (QW.add (c := p + 1) (.tmp rfl) .const (w64 (by simp at hp; omega))) ?_
    refine JL.q rfl rfl rfl (QW.nil_ptr (.tmp rfl)) ?_
    refine JL.q rfl rfl rfl (QW.field_ptr fo63_1 (.tmp rfl) rfl) ?_
    refine JL.store_box 2 ty3 (.tmp rfl) rfl (.tmp rfl) (by first | rfl | assumption) rfl rfl rfl rfl ?_
    refine JL.nil ?_
    refine thenQ.n ?_
    refine J.seq ?_
    refine J.region_lit ?_
    refine JL.q rfl rfl rfl (QW.field_ptr fo71_0 (.tmp rfl) rfl) ?_
    refine JL.q rfl rfl rfl (QW.load_box1 0 ty3 (.tmp rfl) rfl rfl) ?_
    refine JL.q rfl rfl rfl (QW.assign (.tmp rfl)) ?_
    refine JL.nil ?_
    refine thenQ.n ?_
    refine J.cutK (ι := Nat × Str × Nat × List UInt8) [0, 1, 4] (fun ⟨bb, t, n, r2⟩ => [(7, .c (.int .i64 (n : Int)))]) (fun ⟨bb, t, n, r2⟩ oo => List.set (List.set oo 1 (.box b4 ((EX.mk (a.toNat : Int) bb t []).raw (.slice none 0 0)))) 2 (sb b r2 (p + 1))) (fun ⟨bb, t, n, r2⟩ => hd2 (a.toNat : Int) r = .ok (bb, t, n, r2)) ?_ ?_
    · skip
      refine J.seq ?_
      refine J.region_lit ?_
      refine JL.q rfl rfl rfl (QW.field_ptr fo32_0 (.tmp rfl) rfl) ?_
      refine JL.q rfl rfl rfl (QW.load_box1 1 ty3 (.tmp rfl) rfl rfl) ?_
      refine JL.nil ?_
      refine thenQ.n ?_
      refine J.block ?_
      refine J.seq ?_
      refine J.region_lit ?_
      refine JL.q rfl rfl rfl (QW.eql (.tmp rfl) .const) ?_
      refine JL.q rfl rfl rfl (QW.assign (.tmp rfl)) ?_
      refine JL.nil ?_
      refine thenQ.n ?_
      refine J.cond (.tmp rfl) (fun c1 => ?_) (fun c1 => ?_)
      · skip
        have o3 : (a.toNat : Int) = 3 := by simpa using c1
        refine J.seq ?_
        refine J.seq ?_
        refine J.region_lit ?_
        refine JL.q rfl rfl rfl (QW.move (.tmp rfl)) ?_
        refine JL.callPF [.k, .k, .p] gofn38 rfl Lent.nil (fun _ => (.cons (.tmp rfl) (.cons .const .nil))) (stake_ok 8) (.inl rfl) (fun k39 x39 o39 h39 => ?_) (fun k39 => ?_)
        rotate_left
        · skip
          refine thenQ.p ?_
          refine thenQ.p ?_
          refine blkQ.p ?_
          refine thenQ.p ?_
          exact ⟨_, selP [.k, .k] _, _, rfl, rfl, sel_perm [.k, .k] _, PanR.of (dec_hd_err hsh (by unfold hd2; rw [if_pos o3, if_pos (by omega)])) (by decide)⟩
        obtain ⟨rfl, rfl⟩ := h39
        have hr8 : 8 ≤ r.length := k39
        refine JL.q rfl rfl rfl (by first | exact QW.len_slE sl40 (.tmp rfl) (bytesAV_length _) | exact QW.len_slE sl40 (.tmp rfl) (EX.css_length _ _) | exact QW.len_sl sl40 (.tmp rfl) | exact QW.len_nil sl40 (.tmp rfl)) ?_
        refine JL.q rfl rfl rfl (QW.move .const) ?_
        refine JL.nil ?_
        refine thenQ.n ?_
        refine J.block ?_
        refine J.loopK (ι := Nat) [0, 1, 4, 7, 39, 40] (fun j => [(41, .c (.int .i64 (j : Int)))]) (fun j oo => List.set oo 1 (.box b4 ((EX.mk (a.toNat : Int) (beV ((r.take 8).take j)) [] []).raw (.slice none 0 0)))) (fun j => j ≤ 8) (fun j => 8 - j) 0 (Nat.zero_le _) (Wk.re (.cons rfl (.refl _) (.cons rfl (.refl _) (.cons rfl (.refl _) (.cons rfl (.refl _) (.cons rfl (.refl _) (.cons rfl (.refl _) (.cons rfl (.refl _) .nil))))))) (Reown.refl _) (fun _ h => by first | exact h | simp [h])) ?_
        intro j hj
        refine J.conv (by (try simp only [id_eq, stepsO, List.map_cons, List.map_nil, valO, nthO, curO, mrg, List.reverse_cons, List.reverse_nil, List.nil_append, List.cons_append, List.append_nil, List.getElem?_cons_zero, List.getElem?_cons_succ, Option.map_some, Option.getD_some, List.set_cons_zero, List.set_cons_succ, AV.cellsOf, splice_zero, splice_succ, Nat.zero_add, Nat.reduceAdd]); rfl) ?_
        refine J.seq ?_
        refine J.region_lit ?_
        refine JL.q rfl rfl rfl (QW.lss (.tmp rfl) (.tmp rfl)) ?_
        refine JL.nil ?_
        refine thenQ.n ?_
        refine J.seq ?_
        refine J.cond (.tmp rfl) (fun c2 => ?_) (fun c2 => ?_)
        · skip
          have hlt : j < 8 := by (simp at c2; omega)
          have hlt8 : j < (r.take 8).length := by simp; omega
          have hbv : beV ((r.take 8).take j) < 2 ^ 56 := by
            have h1 := beV_lt ((r.take 8).take j)
            rw [List.length_take, show min j (r.take 8).length = j by omega] at h1
            exact Nat.lt_of_lt_of_le h1 (by rw [show (2 : Nat) ^ 56 = 256 ^ 7 by decide]; exact Nat.pow_le_pow_right (by decide) (by omega))
          refine J.skip ?_
          refine thenQ.n ?_
          refine J.seq ?_
          refine J.block ?_
          refine J.seq ?_
          refine J.region_lit ?_
          refine JL.q rfl rfl rfl (QW.index_sl sl40 ty5 rfl (.tmp rfl) (.tmp rfl) (by first | rfl | omega | (simp; done)) (by exact bytesAV_get (List.getElem?_eq_getElem hlt8))) ?_
          refine JL.q rfl rfl rfl (QW.load_ref1 ty5 (.tmp rfl) rfl) ?_
          refine JL.q rfl rfl rfl (QW.assign (.tmp rfl)) ?_
          refine JL.nil ?_
          refine thenQ.n ?_
          refine J.region_lit ?_
          refine JL.q rfl rfl rfl (QW.field_ptr fo32_1 (.tmp rfl) rfl) ?_
          refine JL.q rfl rfl rfl (QW.load_box1 1 ty22 (.tmp rfl) rfl rfl) ?_
          refine JL.q rfl rfl rfl (QW.shl (.tmp rfl) .const (by decide) (shl8 hbv)) ?_
          refine JL.q rfl rfl rfl (QW.move (.tmp rfl)) ?_
          refine JL.q rfl rfl rfl (QW.conv_int us5 iu22 (.tmp rfl) (c := (((r.take 8)[j]'hlt8).toNat : Int)) (wu64 (by have := UInt8.toNat_lt ((r.take 8)[j]'hlt8); omega))) ?_
          refine JL.q rfl rfl rfl (QW.or (.tmp rfl) (.tmp rfl) (or8 hbv (UInt8.toNat_lt _))) ?_
          refine JL.q rfl rfl rfl (QW.field_ptr fo32_1 (.tmp rfl) rfl) ?_
          refine JL.store_box 1 ty22 (.tmp rfl) rfl (.tmp rfl) (by first | rfl | assumption) rfl rfl rfl rfl ?_
          refine JL.nil ?_
          refine blkQ.n ?_
          refine thenQ.n ?_
          refine J.region_lit ?_
          refine JL.q rfl rfl rfl (QW.add (.tmp rfl) .const (by first | exact w64n (by first | rfl | omega | (simp; done)) (by omega) | exact w64 (by omega) | rfl)) ?_
          refine JL.q rfl rfl rfl (QW.move (.tmp rfl)) ?_
          refine JL.nil ?_
          refine thenQ.n ?_
          exact ⟨j + 1, hlt, by omega, Wk.re (.cons rfl (.refl _) (.cons rfl (.refl _) (.cons rfl (.refl _) (.cons rfl (.refl _) (.cons rfl (.refl _) (.cons rfl (.refl _) (.cons rfl (.refl _) .nil))))))) (Reown.ofEq (by show [_, Own.box b4 [_, .c (.int .u64 ((beV ((r.take 8).take j) * 256 + ((r.take 8)[j]'hlt8).toNat : Nat) : Int)), _, _], _] = _; rw [← beV_snoc, ← List.take_succ_eq_append_getElem hlt8]; rfl)) (fun _ h => by first | exact h | simp [h])⟩
        · skip
          obtain rfl : j = 8 := by (simp at c2; omega)
          have ht8 : (r.take 8).take 8 = r.take 8 := List.take_of_length_le (by rw [List.length_take]; omega)
          refine J.exit ?_
          refine thenQ.x ?_
          refine thenQ.x ?_
          refine blkQ.hit ?_
          refine thenQ.n ?_
          refine J.regionX mixed ?_
          refine JX.f 0 [] rfl rfl rfl rfl rfl rfl rfl rfl (fun ow_ => (.q rfl (QW.field_ptr fo32_1 (.tmp rfl) rfl))) ?_
          refine JX.o 1 1 [53] rfl rfl rfl rfl rfl rfl rfl rfl rfl (fun ow_ ho_ => (.q rfl (QW.load_box1 1 ty22 (.tmp rfl) ho_ rfl))) ?_
          refine JX.f 2 [54] rfl rfl rfl rfl rfl rfl rfl rfl (fun ow_ => (.q rfl (QW.call gofn39 (.cons (.tmp rfl) .nil) (canon_ok _)))) ?_
          refine JX.f 3 [] rfl rfl rfl rfl rfl rfl rfl rfl (fun ow_ => (.q rfl (QW.field_ptr fo32_1 (.tmp rfl) rfl))) ?_
          refine JX.o 4 1 [56] rfl rfl rfl rfl rfl rfl rfl rfl rfl (fun ow_ ho_ => (.q rfl (QW.load_box1 1 ty22 (.tmp rfl) ho_ rfl))) ?_
          refine JX.f 5 [55, 57] rfl rfl rfl rfl rfl rfl rfl rfl (fun ow_ => (.q rfl (QW.eql (.tmp rfl) (.tmp rfl)))) ?_
          refine JX.one 6 [true, true, true, true, true, true] rfl (by kernel_rfl) (by kernel_rfl) rfl rfl (by kernel_rfl) rfl fun bs6_ pe_ ex_ => ?_
          refine JL.conv (by (try simp only [vlF, bxF, tkM, lvM, Flt.val, Flt.bx, List.append_assoc, List.take_succ_cons, List.take_zero, List.append_eq, id_eq, stepsO, List.map_cons, List.map_nil, valO, nthO, curO, mrg, List.reverse_cons, List.reverse_nil, List.nil_append, List.cons_append, List.append_nil, List.getElem?_cons_zero, List.getElem?_cons_succ, Option.map_some, Option.getD_some, List.set_cons_zero, List.set_cons_succ, AV.cellsOf, splice_zero, splice_succ, Nat.zero_add, Nat.reduceAdd]); rfl) ?_
          refine JL.callPF [] gofn32 rfl Lent.nil (fun _ => (.cons (.tmp rfl) (.cons .const .nil))) (need_ok _ _) (.inl rfl) (fun k59 x59 o59 h59 => ?_) (fun k59 => ?_)
          rotate_left
          · skip
            refine thenQ.p ?_
            refine blkQ.p ?_
            refine thenQ.p ?_
            have hcan : canonN (beV (r.take 8)) ≠ beV (r.take 8) := fun h => k59 (by show (((canonN (beV ((r.take 8).take 8)) : Nat) : Int) == ((beV ((r.take 8).take 8) : Nat) : Int)) = true; rw [ht8, h]; simp)
            exact ⟨_, selP [.k, .k, .k] _, _, rfl, rfl, sel_perm [.k, .k, .k] _, PanR.of (dec_hd_err hsh (by unfold hd2; rw [if_pos o3, if_neg (by omega), if_pos hcan])) (by decide)⟩
          obtain ⟨rfl, rfl⟩ := h59
          refine JL.nil ?_
          refine thenQ.n ⟨[_], _, rfl, rfl, rfl, rfl, rfl, Reown.mrgN 3 rfl rfl, ⟨rfl, rfl⟩, trivial, ?_⟩
          refine JX.conv (S' := [6, 5, 4, 3, 2, 1, 0]) rfl (by (try simp only [lvM]); rfl) (by (try simp only [vlF, bxF, tkM, lvM, Flt.val, Flt.bx, List.append_assoc, List.take_succ_cons, List.take_zero, List.append_eq, id_eq, stepsO, List.map_cons, List.map_nil, valO, nthO, curO, mrg, List.reverse_cons, List.reverse_nil, List.nil_append, List.cons_append, List.append_nil, List.getElem?_cons_zero, List.getElem?_cons_succ, Option.map_some, Option.getD_some, List.set_cons_zero, List.set_cons_succ, AV.cellsOf, splice_zero, splice_succ, Nat.zero_add, Nat.reduceAdd]); rfl) ?_
          refine JX.fin (by kernel_rfl) (by kernel_rfl) fun bs_ => ?_
          refine QX.conv (by (try simp only [vlF, bxF, tkM, lvM, Flt.val, Flt.bx, List.append_assoc, List.take_succ_cons, List.take_zero, List.append_eq, id_eq, stepsO, List.map_cons, List.map_nil, valO, nthO, curO, mrg, List.reverse_cons, List.reverse_nil, List.nil_append, List.cons_append, List.append_nil, List.getElem?_cons_zero, List.getElem?_cons_succ, Option.map_some, Option.getD_some, List.set_cons_zero, List.set_cons_succ, AV.cellsOf, splice_zero, splice_succ, Nat.zero_add, Nat.reduceAdd]); rfl) ?_
          refine blkQ.n ?_
          refine thenQ.n ?_
          have hcan : canonN (beV (r.take 8)) = beV (r.take 8) := by
            have k59 : (((canonN (beV ((r.take 8).take 8)) : Nat) : Int) == ((beV ((r.take 8).take 8) : Nat) : Int)) = true := k59
            rw [ht8] at k59
            have := eq_of_beq k59
            omega
          exact ⟨⟨beV (r.take 8), [], 0, r.drop 8⟩, by unfold hd2; rw [if_pos o3, if_neg (by omega), if_neg (not_not_intro hcan)], Wk.re (.cons rfl (Le.intE (by rw [o3]; rfl)) (.cons rfl (.refl _) (.cons rfl (.refl _) (.cons rfl (.refl _) .nil)))) (Reown.ofEq (by rw [ht8]; rfl)) (fun _ h => by first | exact h | simp [h])⟩
      · skip
        have o3 : ¬ (a.toNat : Int) = 3 := by simpa using c1
        refine J.seq ?_
        refine J.seq ?_
        refine J.region_lit ?_
        refine JL.q rfl rfl rfl (QW.eql (.tmp rfl) .const) ?_
        refine JL.q rfl rfl rfl (QW.assign (.tmp rfl)) ?_
        refine JL.nil ?_
        refine thenQ.n ?_
        refine J.cond (.tmp rfl) (fun c2 => ?_) (fun c2 => ?_)
        · skip
          have o4 : (a.toNat : Int) = 4 := by simpa using c2
          refine J.skip ?_
          refine thenQ.n ?_
          refine J.cond (.tmp rfl) (fun c3 => ?_) (fun c3 => absurd c3 (by simp [o4]))
          refine J.seq ?_
          refine J.region_lit ?_
          refine JL.q rfl rfl rfl (QW.move (.tmp rfl)) ?_
          refine JL.callPF [.k, .k, .p] gofn36 rfl Lent.nil (fun _ => (.cons (.tmp rfl) .nil)) (soctet_ok) (.inl rfl) (fun k65 x65 o65 h65 => ?_) (fun k65 => ?_)
          rotate_left
          · skip
            refine thenQ.p ?_
            refine blkQ.p ?_
            refine thenQ.p ?_
            have h3 : ¬ (a.toNat : Int) = 3 := by omega
            have h4 : (a.toNat : Int) = 4 ∨ (a.toNat : Int) = 8 ∨ (a.toNat : Int) = 25 := by omega
            obtain rfl : r = [] := by cases r with | nil => rfl | cons x q => simp at k65
            exact ⟨_, selP [.k, .k] _, _, rfl, rfl, sel_perm [.k, .k] _, PanR.of (dec_hd_err hsh (by unfold hd2; rw [if_neg h3, if_pos h4])) (by decide)⟩
          obtain ⟨rfl, rfl⟩ := h65
          obtain ⟨k, r, rfl⟩ : ∃ x q, r = x :: q := by cases r with | nil => simp at k65 | cons x q => exact ⟨x, q, rfl⟩
          have hk256 := UInt8.toNat_lt k
          refine JL.conv (by (try simp only [List.headD_cons, List.drop_succ_cons, List.drop_zero]); rfl) ?_
          refine JL.q rfl rfl rfl (QW.assign (.tmp rfl)) ?_
          refine JL.nil ?_
          refine thenQ.n ?_
          refine J.seq ?_
          refine J.region_lit ?_
          refine JL.q rfl rfl rfl (QW.move (.tmp rfl)) ?_
          refine JL.q rfl rfl rfl (QW.field_ptr fo71_2 (.tmp rfl) rfl) ?_
          refine JL.q rfl rfl rfl (QW.load_box1 0 ty3 (.tmp rfl) rfl rfl) ?_
          refine JL.q rfl rfl rfl (QW.field_ptr fo71_3 (.tmp rfl) rfl) ?_
          refine JL.q rfl rfl rfl (QW.load_box1 0 ty3 (.tmp rfl) rfl rfl) ?_
          refine JL.q rfl rfl rfl (QW.call gofn40 (.cons (.tmp rfl) (.cons (.tmp rfl) (.cons (.tmp rfl) .nil))) (within_ok _ _ _)) ?_
          refine JL.callPF [] gofn32 rfl Lent.nil (fun _ => (.cons (.tmp rfl) (.cons .const .nil))) (need_ok _ _) (.inl rfl) (fun k72 x72 o72 h72 => ?_) (fun k72 => ?_)
          rotate_left
          · skip
            refine thenQ.p ?_
            refine blkQ.p ?_
            refine thenQ.p ?_
            have h3 : ¬ (a.toNat : Int) = 3 := by omega
            have h4 : (a.toNat : Int) = 4 ∨ (a.toNat : Int) = 8 ∨ (a.toNat : Int) = 25 := by omega
            have k72 : (k.toNat : Int) < textLo (a.toNat : Int) ∨ textHi (a.toNat : Int) < (k.toNat : Int) := by simp at k72; omega
            exact ⟨_, selP [.k, .k, .k] _, _, rfl, rfl, sel_perm [.k, .k, .k] _, PanR.of (dec_hd_err hsh (by unfold hd2; rw [if_neg h3, if_pos h4]; simp only []; rw [if_pos k72])) (by decide)⟩
          obtain ⟨rfl, rfl⟩ := h72
          refine JL.nil ?_
          refine thenQ.n ?_
          refine J.region_lit ?_
          have hkw : ¬ ((k.toNat : Int) < textLo (a.toNat : Int) ∨ textHi (a.toNat : Int) < (k.toNat : Int)) := by simp at k72; omega
          refine JL.q rfl rfl rfl (QW.move (.tmp rfl)) ?_
          refine JL.q rfl rfl rfl (QW.move (.tmp rfl)) ?_
          refine JL.callPF [.k, .k, .p] gofn38 rfl Lent.nil (fun _ => (.cons (.tmp rfl) (.cons (.tmp rfl) .nil))) (stake_ok k.toNat) (.inl rfl) (fun k75 x75 o75 h75 => ?_) (fun k75 => ?_)
          rotate_left
          · skip
            refine blkQ.p ?_
            refine thenQ.p ?_
            have h3 : ¬ (a.toNat : Int) = 3 := by omega
            have h4 : (a.toNat : Int) = 4 ∨ (a.toNat : Int) = 8 ∨ (a.toNat : Int) = 25 := by omega
            exact ⟨_, selP [.k, .k] _, _, rfl, rfl, sel_perm [.k, .k] _, PanR.of (dec_hd_err hsh (by unfold hd2; rw [if_neg h3, if_pos h4]; simp only []; rw [if_neg hkw, if_pos (by omega)])) (by decide)⟩
          obtain ⟨rfl, rfl⟩ := h75
          have hkl : k.toNat ≤ r.length := k75
          refine JL.q rfl rfl rfl (QW.bytes_str sl40 st9 iu5 (.tmp rfl)) ?_
          refine JL.q rfl rfl rfl (QW.field_ptr fo32_2 (.tmp rfl) rfl) ?_
          refine JL.store_box 1 ty9 (.tmp rfl) rfl (.tmp rfl) (by first | rfl | assumption) rfl rfl rfl rfl ?_
          refine JL.nil ?_
          refine blkQ.n ?_
          refine thenQ.n ?_
          have h3 : ¬ (a.toNat : Int) = 3 := by omega
          have h4 : (a.toNat : Int) = 4 ∨ (a.toNat : Int) = 8 ∨ (a.toNat : Int) = 25 := by omega
          exact ⟨⟨0, r.take k.toNat, kidsN (a.toNat : Int), r.drop k.toNat⟩, by unfold hd2; rw [if_neg h3, if_pos h4]; simp only []; rw [if_neg hkw, if_neg (by omega)], Wk.re (.cons rfl (Le.intE (shLo_kids hsh)) (.cons rfl (.refl _) (.cons rfl (.refl _) (.cons rfl (.refl _) .nil)))) (Reown.refl _) (fun _ h => by first | exact h | simp [h])⟩
        · skip
          have o4 : ¬ (a.toNat : Int) = 4 := by simpa using c2
          refine J.seq ?_
          refine J.region_lit ?_
          refine JL.q rfl rfl rfl (QW.eql (.tmp rfl) .const) ?_
          refine JL.q rfl rfl rfl (QW.assign (.tmp rfl)) ?_
          refine JL.nil ?_
          refine thenQ.n ?_
          refine J.cond (.tmp rfl) (fun c3 => ?_) (fun c3 => ?_)
          · skip
            have o8 : (a.toNat : Int) = 8 := by simpa using c3
            refine J.skip ?_
            refine thenQ.n ?_
            refine J.cond (.tmp rfl) (fun c4 => ?_) (fun c4 => absurd c4 (by simp [o8]))
            refine J.seq ?_
            refine J.region_lit ?_
            refine JL.q rfl rfl rfl (QW.move (.tmp rfl)) ?_
            refine JL.callPF [.k, .k, .p] gofn36 rfl Lent.nil (fun _ => (.cons (.tmp rfl) .nil)) (soctet_ok) (.inl rfl) (fun k65 x65 o65 h65 => ?_) (fun k65 => ?_)
            rotate_left
            · skip
              refine thenQ.p ?_
              refine blkQ.p ?_
              refine thenQ.p ?_
              have h3 : ¬ (a.toNat : Int) = 3 := by omega
              have h4 : (a.toNat : Int) = 4 ∨ (a.toNat : Int) = 8 ∨ (a.toNat : Int) = 25 := by omega
              obtain rfl : r = [] := by cases r with | nil => rfl | cons x q => simp at k65
              exact ⟨_, selP [.k, .k] _, _, rfl, rfl, sel_perm [.k, .k] _, PanR.of (dec_hd_err hsh (by unfold hd2; rw [if_neg h3, if_pos h4])) (by decide)⟩
            obtain ⟨rfl, rfl⟩ := h65
            obtain ⟨k, r, rfl⟩ : ∃ x q, r = x :: q := by cases r with | nil => simp at k65 | cons x q => exact ⟨x, q, rfl⟩
            have hk256 := UInt8.toNat_lt k
            refine JL.conv (by (try simp only [List.headD_cons, List.drop_succ_cons, List.drop_zero]); rfl) ?_
            refine JL.q rfl rfl rfl (QW.assign (.tmp rfl)) ?_
            refine JL.nil ?_
            refine thenQ.n ?_
            refine J.seq ?_
            refine J.region_lit ?_
            refine JL.q rfl rfl rfl (QW.move (.tmp rfl)) ?_
            refine JL.q rfl rfl rfl (QW.field_ptr fo71_2 (.tmp rfl) rfl) ?_
            refine JL.q rfl rfl rfl (QW.load_box1 0 ty3 (.tmp rfl) rfl rfl) ?_
            refine JL.q rfl rfl rfl (QW.field_ptr fo71_3 (.tmp rfl) rfl) ?_
            refine JL.q rfl rfl rfl (QW.load_box1 0 ty3 (.tmp rfl) rfl rfl) ?_
            refine JL.q rfl rfl rfl (QW.call gofn40 (.cons (.tmp rfl) (.cons (.tmp rfl) (.cons (.tmp rfl) .nil))) (within_ok _ _ _)) ?_
            refine JL.callPF [] gofn32 rfl Lent.nil (fun _ => (.cons (.tmp rfl) (.cons .const .nil))) (need_ok _ _) (.inl rfl) (fun k72 x72 o72 h72 => ?_) (fun k72 => ?_)
            rotate_left
            · skip
              refine thenQ.p ?_
              refine blkQ.p ?_
              refine thenQ.p ?_
              have h3 : ¬ (a.toNat : Int) = 3 := by omega
              have h4 : (a.toNat : Int) = 4 ∨ (a.toNat : Int) = 8 ∨ (a.toNat : Int) = 25 := by omega
              have k72 : (k.toNat : Int) < textLo (a.toNat : Int) ∨ textHi (a.toNat : Int) < (k.toNat : Int) := by simp at k72; omega
              exact ⟨_, selP [.k, .k, .k] _, _, rfl, rfl, sel_perm [.k, .k, .k] _, PanR.of (dec_hd_err hsh (by unfold hd2; rw [if_neg h3, if_pos h4]; simp only []; rw [if_pos k72])) (by decide)⟩
            obtain ⟨rfl, rfl⟩ := h72
            refine JL.nil ?_
            refine thenQ.n ?_
            refine J.region_lit ?_
            have hkw : ¬ ((k.toNat : Int) < textLo (a.toNat : Int) ∨ textHi (a.toNat : Int) < (k.toNat : Int)) := by simp at k72; omega
            refine JL.q rfl rfl rfl (QW.move (.tmp rfl)) ?_
            refine JL.q rfl rfl rfl (QW.move (.tmp rfl)) ?_
            refine JL.callPF [.k, .k, .p] gofn38 rfl Lent.nil (fun _ => (.cons (.tmp rfl) (.cons (.tmp rfl) .nil))) (stake_ok k.toNat) (.inl rfl) (fun k75 x75 o75 h75 => ?_) (fun k75 => ?_)
            rotate_left
            · skip
              refine blkQ.p ?_
              refine thenQ.p ?_
              have h3 : ¬ (a.toNat : Int) = 3 := by omega
              have h4 : (a.toNat : Int) = 4 ∨ (a.toNat : Int) = 8 ∨ (a.toNat : Int) = 25 := by omega
              exact ⟨_, selP [.k, .k] _, _, rfl, rfl, sel_perm [.k, .k] _, PanR.of (dec_hd_err hsh (by unfold hd2; rw [if_neg h3, if_pos h4]; simp only []; rw [if_neg hkw, if_pos (by omega)])) (by decide)⟩
            obtain ⟨rfl, rfl⟩ := h75
            have hkl : k.toNat ≤ r.length := k75
            refine JL.q rfl rfl rfl (QW.bytes_str sl40 st9 iu5 (.tmp rfl)) ?_
            refine JL.q rfl rfl rfl (QW.field_ptr fo32_2 (.tmp rfl) rfl) ?_
            refine JL.store_box 1 ty9 (.tmp rfl) rfl (.tmp rfl) (by first | rfl | assumption) rfl rfl rfl rfl ?_
            refine JL.nil ?_
            refine blkQ.n ?_
            refine thenQ.n ?_
            have h3 : ¬ (a.toNat : Int) = 3 := by omega
            have h4 : (a.toNat : Int) = 4 ∨ (a.toNat : Int) = 8 ∨ (a.toNat : Int) = 25 := by omega
            exact ⟨⟨0, r.take k.toNat, kidsN (a.toNat : Int), r.drop k.toNat⟩, by unfold hd2; rw [if_neg h3, if_pos h4]; simp only []; rw [if_neg hkw, if_neg (by omega)], Wk.re (.cons rfl (Le.intE (shLo_kids hsh)) (.cons rfl (.refl _) (.cons rfl (.refl _) (.cons rfl (.refl _) .nil)))) (Reown.refl _) (fun _ h => by first | exact h | simp [h])⟩
          · skip
            have o8 : ¬ (a.toNat : Int) = 8 := by simpa using c3
            refine J.region_lit ?_
            refine JL.q rfl rfl rfl (QW.eql (.tmp rfl) .const) ?_
            refine JL.q rfl rfl rfl (QW.assign (.tmp rfl)) ?_
            refine JL.nil ?_
            refine thenQ.n ?_
            refine J.cond (.tmp rfl) (fun c4 => ?_) (fun c4 => ?_)
            · skip
              have o25 : (a.toNat : Int) = 25 := by simpa using c4
              refine J.seq ?_
              refine J.region_lit ?_
              refine JL.q rfl rfl rfl (QW.move (.tmp rfl)) ?_
              refine JL.callPF [.k, .k, .p] gofn36 rfl Lent.nil (fun _ => (.cons (.tmp rfl) .nil)) (soctet_ok) (.inl rfl) (fun k65 x65 o65 h65 => ?_) (fun k65 => ?_)
              rotate_left
              · skip
                refine thenQ.p ?_
                refine blkQ.p ?_
                refine thenQ.p ?_
                have h3 : ¬ (a.toNat : Int) = 3 := by omega
                have h4 : (a.toNat : Int) = 4 ∨ (a.toNat : Int) = 8 ∨ (a.toNat : Int) = 25 := by omega
                obtain rfl : r = [] := by cases r with | nil => rfl | cons x q => simp at k65
                exact ⟨_, selP [.k, .k] _, _, rfl, rfl, sel_perm [.k, .k] _, PanR.of (dec_hd_err hsh (by unfold hd2; rw [if_neg h3, if_pos h4])) (by decide)⟩
              obtain ⟨rfl, rfl⟩ := h65
              obtain ⟨k, r, rfl⟩ : ∃ x q, r = x :: q := by cases r with | nil => simp at k65 | cons x q => exact ⟨x, q, rfl⟩
              have hk256 := UInt8.toNat_lt k
              refine JL.conv (by (try simp only [List.headD_cons, List.drop_succ_cons, List.drop_zero]); rfl) ?_
              refine JL.q rfl rfl rfl (QW.assign (.tmp rfl)) ?_
              refine JL.nil ?_
              refine thenQ.n ?_
              refine J.seq ?_
              refine J.region_lit ?_
              refine JL.q rfl rfl rfl (QW.move (.tmp rfl)) ?_
              refine JL.q rfl rfl rfl (QW.field_ptr fo71_2 (.tmp rfl) rfl) ?_
              refine JL.q rfl rfl rfl (QW.load_box1 0 ty3 (.tmp rfl) rfl rfl) ?_
              refine JL.q rfl rfl rfl (QW.field_ptr fo71_3 (.tmp rfl) rfl) ?_
              refine JL.q rfl rfl rfl (QW.load_box1 0 ty3 (.tmp rfl) rfl rfl) ?_
              refine JL.q rfl rfl rfl (QW.call gofn40 (.cons (.tmp rfl) (.cons (.tmp rfl) (.cons (.tmp rfl) .nil))) (within_ok _ _ _)) ?_
              refine JL.callPF [] gofn32 rfl Lent.nil (fun _ => (.cons (.tmp rfl) (.cons .const .nil))) (need_ok _ _) (.inl rfl) (fun k72 x72 o72 h72 => ?_) (fun k72 => ?_)
              rotate_left
              · skip
                refine thenQ.p ?_
                refine blkQ.p ?_
                refine thenQ.p ?_
                have h3 : ¬ (a.toNat : Int) = 3 := by omega
                have h4 : (a.toNat : Int) = 4 ∨ (a.toNat : Int) = 8 ∨ (a.toNat : Int) = 25 := by omega
                have k72 : (k.toNat : Int) < textLo (a.toNat : Int) ∨ textHi (a.toNat : Int) < (k.toNat : Int) := by simp at k72; omega
                exact ⟨_, selP [.k, .k, .k] _, _, rfl, rfl, sel_perm [.k, .k, .k] _, PanR.of (dec_hd_err hsh (by unfold hd2; rw [if_neg h3, if_pos h4]; simp only []; rw [if_pos k72])) (by decide)⟩
              obtain ⟨rfl, rfl⟩ := h72
              refine JL.nil ?_
              refine thenQ.n ?_
              refine J.region_lit ?_
              have hkw : ¬ ((k.toNat : Int) < textLo (a.toNat : Int) ∨ textHi (a.toNat : Int) < (k.toNat : Int)) := by simp at k72; omega
              refine JL.q rfl rfl rfl (QW.move (.tmp rfl)) ?_
              refine JL.q rfl rfl rfl (QW.move (.tmp rfl)) ?_
              refine JL.callPF [.k, .k, .p] gofn38 rfl Lent.nil (fun _ => (.cons (.tmp rfl) (.cons (.tmp rfl) .nil))) (stake_ok k.toNat) (.inl rfl) (fun k75 x75 o75 h75 => ?_) (fun k75 => ?_)
              rotate_left
              · skip
                refine blkQ.p ?_
                refine thenQ.p ?_
                have h3 : ¬ (a.toNat : Int) = 3 := by omega
                have h4 : (a.toNat : Int) = 4 ∨ (a.toNat : Int) = 8 ∨ (a.toNat : Int) = 25 := by omega
                exact ⟨_, selP [.k, .k] _, _, rfl, rfl, sel_perm [.k, .k] _, PanR.of (dec_hd_err hsh (by unfold hd2; rw [if_neg h3, if_pos h4]; simp only []; rw [if_neg hkw, if_pos (by omega)])) (by decide)⟩
              obtain ⟨rfl, rfl⟩ := h75
              have hkl : k.toNat ≤ r.length := k75
              refine JL.q rfl rfl rfl (QW.bytes_str sl40 st9 iu5 (.tmp rfl)) ?_
              refine JL.q rfl rfl rfl (QW.field_ptr fo32_2 (.tmp rfl) rfl) ?_
              refine JL.store_box 1 ty9 (.tmp rfl) rfl (.tmp rfl) (by first | rfl | assumption) rfl rfl rfl rfl ?_
              refine JL.nil ?_
              refine blkQ.n ?_
              refine thenQ.n ?_
              have h3 : ¬ (a.toNat : Int) = 3 := by omega
              have h4 : (a.toNat : Int) = 4 ∨ (a.toNat : Int) = 8 ∨ (a.toNat : Int) = 25 := by omega
              exact ⟨⟨0, r.take k.toNat, kidsN (a.toNat : Int), r.drop k.toNat⟩, by unfold hd2; rw [if_neg h3, if_pos h4]; simp only []; rw [if_neg hkw, if_neg (by omega)], Wk.re (.cons rfl (Le.intE (shLo_kids hsh)) (.cons rfl (.refl _) (.cons rfl (.refl _) (.cons rfl (.refl _) .nil)))) (Reown.refl _) (fun _ h => by first | exact h | simp [h])⟩
            · skip
              have o25 : ¬ (a.toNat : Int) = 25 := by simpa using c4
              refine J.seq ?_
              refine J.region_lit ?_
              refine JL.q rfl rfl rfl (QW.eql (.tmp rfl) .const) ?_
              refine JL.q rfl rfl rfl (QW.assign (.tmp rfl)) ?_
              refine JL.nil ?_
              refine thenQ.n ?_
              refine J.cond (.tmp rfl) (fun c5 => ?_) (fun c5 => ?_)
              · skip
                have o23 : (a.toNat : Int) = 23 := by simpa using c5
                refine J.seq ?_
                refine J.region_lit ?_
                refine JL.q rfl rfl rfl (QW.move (.tmp rfl)) ?_
                refine JL.callPF [.k, .k, .p] gofn36 rfl Lent.nil (fun _ => (.cons (.tmp rfl) .nil)) (soctet_ok) (.inl rfl) (fun k81 x81 o81 h81 => ?_) (fun k81 => ?_)
                rotate_left
                · skip
                  refine thenQ.p ?_
                  refine blkQ.p ?_
                  refine thenQ.p ?_
                  obtain rfl : r = [] := by cases r with | nil => rfl | cons x q => simp at k81
                  exact ⟨_, selP [.k, .k] _, _, rfl, rfl, sel_perm [.k, .k] _, PanR.of (dec_hd_err hsh (by unfold hd2; rw [if_neg o3, if_neg (by omega), if_pos o23])) (by decide)⟩
                obtain ⟨rfl, rfl⟩ := h81
                obtain ⟨k, r, rfl⟩ : ∃ x q, r = x :: q := by cases r with | nil => simp at k81 | cons x q => exact ⟨x, q, rfl⟩
                have hk256 := UInt8.toNat_lt k
                refine JL.conv (by (try simp only [List.headD_cons, List.drop_succ_cons, List.drop_zero]); rfl) ?_
                refine JL.q rfl rfl rfl (QW.assign (.tmp rfl)) ?_
                refine JL.nil ?_
                refine thenQ.n ?_
                refine J.region_lit ?_
                refine JL.q rfl rfl rfl (QW.move (.tmp rfl)) ?_
                refine JL.q rfl rfl rfl (QW.leq (.tmp rfl) .const) ?_
                refine JL.callPF [] gofn32 rfl Lent.nil (fun _ => (.cons (.tmp rfl) (.cons .const .nil))) (need_ok _ _) (.inl rfl) (fun k84 x84 o84 h84 => ?_) (fun k84 => ?_)
                rotate_left
                · skip
                  refine blkQ.p ?_
                  refine thenQ.p ?_
                  exact ⟨_, selP [.k, .k, .k] _, _, rfl, rfl, sel_perm [.k, .k, .k] _, PanR.of (dec_hd_err hsh (by unfold hd2; rw [if_neg o3, if_neg (by omega), if_pos o23]; simp only []; rw [if_pos (by simp at k84; omega)])) (by decide)⟩
                obtain ⟨rfl, rfl⟩ := h84
                refine JL.nil ?_
                refine blkQ.n ?_
                refine thenQ.n ?_
                exact ⟨⟨0, [], k.toNat, r⟩, by unfold hd2; rw [if_neg o3, if_neg (by omega), if_pos o23]; simp only []; rw [if_neg (by simp at k84; omega)], Wk.re (.cons rfl (.refl _) (.cons rfl (.refl _) (.cons rfl (.refl _) (.cons rfl (.refl _) .nil)))) (Reown.refl _) (fun _ h => by first | exact h | simp [h])⟩
              · skip
                have o23 : ¬ (a.toNat : Int) = 23 := by simpa using c5
                refine J.skip ?_
                refine blkQ.n ?_
                refine thenQ.n ?_
                exact ⟨⟨0, [], kidsN (a.toNat : Int), r⟩, by unfold hd2; rw [if_neg o3, if_neg (by omega), if_neg o23], Wk.re (.cons rfl (Le.intE (shLo_kids hsh)) (.cons rfl (.refl _) (.cons rfl (.refl _) (.cons rfl (.refl _) .nil)))) (Reown.refl _) (fun _ h => by first | exact h | simp [h])⟩
    · intro ⟨bb, t, n, r2⟩ hh
      refine J.conv (by (try simp only [id_eq, stepsO, List.map_cons, List.map_nil, valO, nthO, curO, mrg, List.reverse_cons, List.reverse_nil, List.nil_append, List.cons_append, List.append_nil, List.getElem?_cons_zero, List.getElem?_cons_succ, Option.map_some, Option.getD_some, List.set_cons_zero, List.set_cons_succ, AV.cellsOf, splice_zero, splice_succ, Nat.zero_add, Nat.reduceAdd]); rfl) ?_
      obtain ⟨hn8, hr2l, hbb, htl⟩ := hd2_n hh
      refine J.seq ?_
      refine J.seq ?_
      refine J.region_lit ?_
      refine JL.q rfl rfl rfl (QW.move (.tmp rfl)) ?_
      refine JL.q rfl rfl rfl (QW.move .const) ?_
      refine JL.nil ?_
      refine thenQ.n ?_
      refine J.block ?_
      refine J.reown (Reown.nilArrE eEX _) ?_
      refine J.reown (Reown.nilGrpE _) ?_
      refine J.loopK (ι := Nat × Value × List (List AV) × List Value × Own × List EX × List UInt8 × Int) [0, 1, 4, 85] (fun ⟨j, v, cs, us, g, l, r3, p3⟩ => [(86, .c (.int .i64 (j : Int)))]) (fun ⟨j, v, cs, us, g, l, r3, p3⟩ oo => List.set (List.set (List.set (List.set oo 1 (.box b4 ((EX.mk (a.toNat : Int) bb t []).raw v))) 2 (sb b r3 p3)) 3 (.arr v eEX cs)) 4 (g)) (fun ⟨j, v, cs, us, g, l, r3, p3⟩ => j ≤ n ∧ l.length = j ∧ EKids l cs us g ∧ decKids (dec m) n r2 (p + 1) = joinK l (decKids (dec m) (n - j) r3 p3) ∧ (0 ≤ p3 ∧ p3 + r3.length ≤ 4611686018427387904)) (fun ⟨j, v, cs, us, g, l, r3, p3⟩ => n - j) ⟨0, .slice none 0 0, [], [], .grp [], [], r2, p + 1⟩ (⟨Nat.zero_le _, rfl, .nil, by rw [Nat.sub_zero]; cases decKids (dec m) n r2 (p + 1) <;> rfl, by simp at hp; omega, by simp at hp; omega⟩) (Wk.re (.cons rfl (.refl _) (.cons rfl (.refl _) (.cons rfl (.refl _) (.cons rfl (.refl _) (.cons rfl (.refl _) .nil))))) (Reown.refl _) (fun _ h => by first | exact h | simp [h])) ?_
      intro ⟨j, v, cs, us, g, l, r3, p3⟩ ⟨hj, hll, hK, hdk, hp3⟩
      refine J.conv (by (try simp only [id_eq, stepsO, List.map_cons, List.map_nil, valO, nthO, curO, mrg, List.reverse_cons, List.reverse_nil, List.nil_append, List.cons_append, List.append_nil, List.getElem?_cons_zero, List.getElem?_cons_succ, Option.map_some, Option.getD_some, List.set_cons_zero, List.set_cons_succ, AV.cellsOf, splice_zero, splice_succ, Nat.zero_add, Nat.reduceAdd]); rfl) ?_
      refine J.seq ?_
      refine J.region_lit ?_
      refine JL.q rfl rfl rfl (QW.lss (.tmp rfl) (.tmp rfl)) ?_
      refine JL.nil ?_
      refine thenQ.n ?_
      refine J.seq ?_
      refine J.cond (.tmp rfl) (fun c1 => ?_) (fun c1 => ?_)
      · skip
        have hlt : j < n := by simpa using c1
        refine J.skip ?_
        refine thenQ.n ?_
        refine J.seq ?_
        refine J.block ?_
        refine J.regionX mixed ?_
        refine JX.f 0 [] rfl rfl rfl rfl rfl rfl rfl rfl (fun ow_ => (.q rfl (QW.field_ptr fo32_3 (.tmp rfl) rfl))) ?_
        refine JX.o 1 1 [88] rfl rfl rfl rfl rfl rfl rfl rfl rfl (fun ow_ ho_ => (.q rfl (QW.load_box1 1 ty30 (.tmp rfl) ho_ rfl))) ?_
        refine JX.f 2 [] rfl rfl rfl rfl rfl rfl rfl rfl (fun ow_ => (.q rfl (QW.move (.tmp rfl)))) ?_
        refine JX.f 3 [] rfl rfl rfl rfl rfl rfl rfl rfl (fun ow_ => (.q rfl (QW.move (.tmp rfl)))) ?_
        refine JX.f 4 [91] rfl rfl rfl rfl rfl rfl rfl rfl (fun ow_ => (.q rfl (QW.add (.tmp rfl) .const (by first | exact w64n (by first | rfl | omega | (simp; done)) (by omega) | exact w64 (by omega) | rfl)))) ?_
        refine JX.one 5 [true, true, true, false, false] rfl (by kernel_rfl) (by kernel_rfl) rfl rfl (by kernel_rfl) rfl fun bs5_ pe_ ex_ => ?_
        refine JL.conv (by (try simp only [vlF, bxF, tkM, lvM, Flt.val, Flt.bx, List.append_assoc, List.take_succ_cons, List.take_zero, List.append_eq, id_eq, stepsO, List.map_cons, List.map_nil, valO, nthO, curO, mrg, List.reverse_cons, List.reverse_nil, List.nil_append, List.cons_append, List.append_nil, List.getElem?_cons_zero, List.getElem?_cons_succ, Option.map_some, Option.getD_some, List.set_cons_zero, List.set_cons_succ, AV.cellsOf, splice_zero, splice_succ, Nat.zero_add, Nat.reduceAdd]); rfl) ?_
        refine JL.callPF [.k, .k, .p] gofn31 rfl Lent.nil (fun _ => (.cons (.tmp rfl) (.cons (.tmp rfl) .nil))) (ih m (Nat.lt_succ_self _) (by omega) (by omega) hp3) (.inl rfl) (fun k93 x93 o93 h93 => ?_) (fun k93 => ?_)
        rotate_left
        · skip
          refine thenQ.p ?_
          refine blkQ.p ?_
          refine thenQ.p ?_
          refine thenQ.p ?_
          refine blkQ.p ?_
          refine thenQ.p ?_
          exact ⟨_, selP [.k, .k, .k, .k] _, _, rfl, rfl, sel_perm [.k, .k, .k, .k] _, PanR.of (dec_fail hsh hh hdk hlt k93) k93⟩
        obtain ⟨e93, r93, p93, iv93, oi93, hd93, rfl, hV93, rfl⟩ := h93
        refine JL.nil ?_
        refine thenQ.n ⟨[_], _, rfl, rfl, rfl, rfl, rfl, Reown.mrgN 5 rfl rfl, ⟨rfl, rfl⟩, ⟨rfl, ⟨trivial, trivial⟩⟩, ?_⟩
        refine JX.conv (S' := [5, 4, 3, 2]) rfl (by (try simp only [lvM]); rfl) (by (try simp only [vlF, bxF, tkM, lvM, Flt.val, Flt.bx, List.append_assoc, List.take_succ_cons, List.take_zero, List.append_eq, id_eq, stepsO, List.map_cons, List.map_nil, valO, nthO, curO, mrg, List.reverse_cons, List.reverse_nil, List.nil_append, List.cons_append, List.append_nil, List.getElem?_cons_zero, List.getElem?_cons_succ, Option.map_some, Option.getD_some, List.set_cons_zero, List.set_cons_succ, AV.cellsOf, splice_zero, splice_succ, Nat.zero_add, Nat.reduceAdd]); rfl) ?_
        refine JX.f 6 [93] rfl rfl rfl rfl rfl rfl rfl rfl (fun ow_ => (.q rfl (QW.buildSlice (idx := [0]) (xs := [e93.raw iv93]) sl30 el32 z32 rfl (.cons (.tmp rfl) .nil) rfl rfl rfl rfl rfl rfl rfl rfl rfl))) ?_
        refine JX.one 7 [true, true, true] rfl (by kernel_rfl) (by kernel_rfl) rfl rfl (by kernel_rfl) rfl fun bs7_ pe_ ex_ => ?_
        refine JL.conv (by (try simp only [vlF, bxF, tkM, lvM, Flt.val, Flt.bx, List.append_assoc, List.take_succ_cons, List.take_zero, List.append_eq, id_eq, stepsO, List.map_cons, List.map_nil, valO, nthO, curO, mrg, List.reverse_cons, List.reverse_nil, List.nil_append, List.cons_append, List.append_nil, List.getElem?_cons_zero, List.getElem?_cons_succ, Option.map_some, Option.getD_some, List.set_cons_zero, List.set_cons_succ, AV.cellsOf, splice_zero, splice_succ, Nat.zero_add, Nat.reduceAdd]); rfl) ?_
        refine JL.append 3 sl30 el32 rfl (.tmp rfl) rfl (srcA_sl sl30 (.tmp rfl)) (by have := hK.h2; show _ * 56 ≤ _; simp; unfold reach; omega) rfl fun v95 => ?_
        refine JL.nil ?_
        refine thenQ.n ⟨[_], _, rfl, rfl, rfl, rfl, rfl, Reown.tkN 6 rfl, ⟨rfl, rfl⟩, trivial, ?_⟩
        refine JX.conv (S' := [7, 6, 1, 0, 5, 4, 3, 2]) rfl (by (try simp only [lvM]); rfl) (by (try simp only [vlF, bxF, tkM, lvM, Flt.val, Flt.bx, List.append_assoc, List.take_succ_cons, List.take_zero, List.append_eq, id_eq, stepsO, List.map_cons, List.map_nil, valO, nthO, curO, mrg, List.reverse_cons, List.reverse_nil, List.nil_append, List.cons_append, List.append_nil, List.getElem?_cons_zero, List.getElem?_cons_succ, Option.map_some, Option.getD_some, List.set_cons_zero, List.set_cons_succ, AV.cellsOf, splice_zero, splice_succ, Nat.zero_add, Nat.reduceAdd]); rfl) ?_
        refine JX.f 8 [] rfl rfl rfl rfl rfl rfl rfl rfl (fun ow_ => (.q rfl (QW.field_ptr fo32_3 (.tmp rfl) rfl))) ?_
        refine JX.one 9 [true] rfl (by kernel_rfl) (by kernel_rfl) rfl rfl (by kernel_rfl) rfl fun bs9_ pe_ ex_ => ?_
        refine JL.conv (by (try simp only [vlF, bxF, tkM, lvM, Flt.val, Flt.bx, List.append_assoc, List.take_succ_cons, List.take_zero, List.append_eq, id_eq, stepsO, List.map_cons, List.map_nil, valO, nthO, curO, mrg, List.reverse_cons, List.reverse_nil, List.nil_append, List.cons_append, List.append_nil, List.getElem?_cons_zero, List.getElem?_cons_succ, Option.map_some, Option.getD_some, List.set_cons_zero, List.set_cons_succ, AV.cellsOf, splice_zero, splice_succ, Nat.zero_add, Nat.reduceAdd]); rfl) ?_
        refine JL.isSlice 3 rfl fun hs2 => ?_
        refine JL.store_box 1 ty30 (.tmp rfl) rfl (.tmp rfl) (by first | rfl | assumption) rfl rfl rfl rfl ?_
        refine JL.nil ?_
        refine thenQ.n ⟨[], _, rfl, rfl, rfl, rfl, rfl, Reown.tkN 6 rfl, trivial, trivial, ?_⟩
        refine JX.conv (S' := [9, 8, 7, 6, 1, 0, 5, 4, 3, 2]) rfl (by (try simp only [lvM]); rfl) (by (try simp only [vlF, bxF, tkM, lvM, Flt.val, Flt.bx, List.append_assoc, List.take_succ_cons, List.take_zero, List.append_eq, id_eq, stepsO, List.map_cons, List.map_nil, valO, nthO, curO, mrg, List.reverse_cons, List.reverse_nil, List.nil_append, List.cons_append, List.append_nil, List.getElem?_cons_zero, List.getElem?_cons_succ, Option.map_some, Option.getD_some, List.set_cons_zero, List.set_cons_succ, AV.cellsOf, splice_zero, splice_succ, Nat.zero_add, Nat.reduceAdd]); rfl) ?_
        refine JX.fin (by kernel_rfl) (by kernel_rfl) fun bs_ => ?_
        refine QX.conv (by (try simp only [vlF, bxF, tkM, lvM, Flt.val, Flt.bx, List.append_assoc, List.take_succ_cons, List.take_zero, List.append_eq, id_eq, stepsO, List.map_cons, List.map_nil, valO, nthO, curO, mrg, List.reverse_cons, List.reverse_nil, List.nil_append, List.cons_append, List.append_nil, List.getElem?_cons_zero, List.getElem?_cons_succ, Option.map_some, Option.getD_some, List.set_cons_zero, List.set_cons_succ, AV.cellsOf, splice_zero, splice_succ, Nat.zero_add, Nat.reduceAdd]); rfl) ?_
        refine blkQ.n ?_
        refine thenQ.n ?_
        refine J.region_lit ?_
        refine JL.q rfl rfl rfl (QW.add (.tmp rfl) .const (by first | exact w64n (by first | rfl | omega | (simp; done)) (by omega) | exact w64 (by omega) | rfl)) ?_
        refine JL.q rfl rfl rfl (QW.move (.tmp rfl)) ?_
        refine JL.nil ?_
        refine thenQ.n ?_
        obtain ⟨z1, z2, z3, z4, z5⟩ := dec_sound _ _ _ _ _ _ hd93
        have z6 := EX.enc_ge e93
        have z7 := congrArg List.length z1
        rw [List.length_append] at z7
        exact ⟨⟨j + 1, _, _, _, _, l ++ [e93], r93, p93⟩, ⟨hlt, by simp [hll], hK.snoc hV93, dec_next hdk hlt hd93, by omega, by omega⟩, by show n - (j + 1) < n - j; omega, Wk.re (.cons rfl (.refl _) (.cons rfl (.refl _) (.cons rfl (.refl _) (.cons rfl (.refl _) (.cons rfl (.refl _) .nil))))) ((Reown.cons (Reown.cons (Reown.cons (Reown.cons (Reown.grp2 _ _ _)))))) (fun _ h => by first | exact h | simp [h])⟩
      · skip
        obtain rfl : j = n := by (simp at c1; omega)
        refine J.exit ?_
        refine thenQ.x ?_
        refine thenQ.x ?_
        refine blkQ.hit ?_
        refine thenQ.n ?_
        refine J.seq ?_
        refine J.isSlice 3 rfl fun hs1 => ?_
        refine J.reown (Reown.cons (Reown.cons (Reown.cons (Reown.grp2 _ _ _)))) ?_
        refine J.region_lit ?_
        refine JL.q rfl rfl rfl (by first | exact QW.load_box 1 ty32 (.tmp rfl) rfl rfl rfl | exact QW.load_box 1 ty32 (.tmp rfl) rfl (take_at (EX.cs_length _ _) rfl) (EX.cs_length _ _)) ?_
        first | refine JL.store_boxF 1 ty32 (.tmp rfl) rfl (.tmp rfl) (by first | rfl | assumption) (rfl) (rfl) rfl ?_ | refine JL.store_boxF 1 ty32 (.tmp rfl) rfl (.tmp rfl) (by first | rfl | assumption) (rfl) (EX.cs_length _ _) rfl ?_ | refine JL.store_boxF 1 ty32 (.tmp rfl) rfl (.tmp rfl) (by first | rfl | assumption) (EX.cs_length _ _) (rfl) rfl ?_ | refine JL.store_boxF 1 ty32 (.tmp rfl) rfl (.tmp rfl) (by first | rfl | assumption) (EX.cs_length _ _) (EX.cs_length _ _) rfl ?_ | refine JL.store_box 1 ty32 (.tmp rfl) rfl (.tmp rfl) (by first | rfl | assumption) rfl rfl rfl rfl ?_ | refine JL.store_box 1 ty32 (.tmp rfl) rfl (.tmp rfl) (by first | rfl | assumption) (EX.cs_length _ _) rfl rfl rfl ?_
        refine JL.nil ?_
        refine thenQ.n ?_
        refine J.ret ?_
        exact ⟨_, selP [.k, .k, .p, .p] _, _, RetEv.one rfl (by first | exact REv.cell 1 ty32 rfl rfl rfl rfl (.refl _) | exact REv.cell 1 ty32 rfl rfl (take_at (EX.cs_length _ _) rfl) (EX.cs_length _ _) (.refl _)), rfl, sel_perm [.k, .k, .p, .p] _, PanR.ret (by rw [dec_done hsh hh hdk]; rfl) ⟨_, _, _, _, _, dec_done hsh hh hdk, rfl, ⟨hs1, hK.tr (by unfold reach; omega)⟩, rfl⟩⟩
end Go.Proofs.Ytlppnhkjonmniaa.J

/- Walks: Decode; octets that are copied, spoilt. -/
namespace Go.Proofs.Ytlppnhkjonmniaa.J
open Go Go.RowKit
set_option linter.unusedVariables false
set_option linter.unusedSimpArgs false
set_option maxRecDepth 10000
set_option maxHeartbeats 4000000
def decAV (b : List UInt8) : AV := .tup [.agg ((decV b).1.cs true), .c (.int .i64 (decV b).2)]
theorem decAV_of {b : List UInt8} {e : EX} {c : Int} (h : decV b = (e, c)) : decAV b = .tup [.agg (e.cs true), .c (.int .i64 c)] := by unfold decAV; rw [h]
theorem decV_fail {b : List UInt8} (h : ¬ decErr (dec 8 b 0) = 0) : decV b = (EX.nil, decErr (dec 8 b 0)) := by
  unfold decV
  cases hd : dec 8 b 0 with
  | error c => rfl
  | ok v => rw [hd] at h; exact absurd rfl h
theorem decV_tail {b r : List UInt8} {e : EX} {p : Int} (hd : dec 8 b 0 = .ok (e, r, p)) (h : r ≠ []) : decV b = (EX.nil, 23) := by unfold decV; rw [hd]; simp only []; rw [if_pos h]
theorem decV_cnt {b r : List UInt8} {e : EX} {p : Int} (hd : dec 8 b 0 = .ok (e, r, p)) (h : r = []) (hp : 64 < p) : decV b = (EX.nil, 3) := by unfold decV; rw [hd]; simp only []; rw [if_neg (by simp [h]), if_pos hp]
theorem decV_fine {b r : List UInt8} {e : EX} {p : Int} (hd : dec 8 b 0 = .ok (e, r, p)) (h : r = []) (hp : p ≤ 64) : decV b = (e, 0) := by unfold decV; rw [hd]; simp only []; rw [if_neg (by simp [h]), if_neg (by omega)]
theorem dec1_ret (a c : Nat) (x : Int) (cs : List AV) : DC Try.prog 30 [ibox a x, .box c cs] [.c (.pointer (some ⟨a, 0, none⟩)), .c (.pointer (some ⟨c, 0, none⟩))] .returning fun r u' o => r = .ret (.tup []) ∧ u' = .returning ∧ o = [ibox a x, .box c cs] := by
  refine DC.of_JD Try.func30 rfl Try.ntmps30 rfl fun w0 A0 => ?_
  refine JD.seq ?_
  refine JD.region_recover rfl rfl (.inl ⟨rfl, rfl, rfl⟩) rfl ?_
  refine JL.callRF [.p] gofn22 rfl Lent.nil (fun _ => (.cons (.tmp rfl) (.cons (.tmp rfl) .nil))) (told_nil _ _) (.inl rfl) fun x3 o3 h3 => ?_
  obtain ⟨rfl, rfl⟩ := h3
  refine JL.nil ?_
  refine thenD.nn ?_
  refine JD.of_J rfl ?_
  refine J.cond (.tmp rfl) (fun c1 => absurd c1 (by simp)) (fun c1 => ?_)
  refine J.skip ?_
  exact ⟨_, selP [.p, .p] _, _, RetEv.none rfl , rfl, sel_perm [.p, .p] _, ⟨rfl, rfl, rfl⟩⟩
theorem dec1_pan (a c : Nat) (x e : Int) (cs : List AV) (hc : cs.length = 4) : DC Try.prog 30 [ibox a x, .box c cs] [.c (.pointer (some ⟨a, 0, none⟩)), .c (.pointer (some ⟨c, 0, none⟩))] (.panicking [{ v := errV e, recovered := false }]) fun r u' o => r = .ret (.tup []) ∧ u' = .panicking [{ v := errV e, recovered := true }] ∧ o = [ibox a e, .box c [.c (.int .i64 0), .c (.int .u64 0), .c (str []), .c (.slice none 0 0)]] := by
  refine DC.of_JD Try.func30 rfl Try.ntmps30 rfl fun w0 A0 => ?_
  refine JD.seq ?_
  refine JD.region_recover rfl rfl (.inr ⟨[], rfl, rfl⟩) rfl ?_
  refine JL.callRF [.p] gofn22 rfl Lent.nil (fun _ => (.cons (.tmp rfl) (.cons (.tmp rfl) .nil))) (told_hit _ _ _) (.inl rfl) fun x3 o3 h3 => ?_
  obtain ⟨rfl, rfl⟩ := h3
  refine JL.nil ?_
  refine thenD.nn ?_
  refine JD.of_J rfl ?_
  refine J.cond (.tmp rfl) (fun c1 => ?_) (fun c1 => absurd c1 (by simp))
  refine J.region_lit ?_
  refine JL.q rfl rfl rfl (QW.build (idx := []) pl32 z32 rfl .nil rfl rfl rfl rfl) ?_
  refine JL.store_boxF 1 ty32 (.tmp rfl) rfl (.tmp rfl) rfl rfl hc rfl ?_
  refine JL.nil ?_
  exact ⟨_, selP [.p, .p] _, _, RetEv.none rfl , rfl, sel_perm [.p, .p] _, ⟨rfl, rfl, rfl⟩⟩
theorem decode_ok {b : List UInt8} (hb : b.length ≤ reach) : Fn Try.prog 17 [.sl false false eU8 (bytesAV b)] (decAV b) := by
  have hb2 : b.length ≤ 140737488351232 := hb
  refine AC.of_JD Try.func17 rfl Try.ntmps17 rfl fun w0 A0 => ?_
  refine J.seq ?_
  refine J.region_lit ?_
  refine JL.alloc z32 rfl rfl fun b2 => ?_
  refine JL.alloc z27 rfl rfl fun b3 => ?_
  refine JL.nil ?_
  refine thenQ.n ?_
  refine J.seq ?_
  refine J.region_lit ?_
  refine JL.q rfl rfl rfl (QW.mkFunc .nil (.cons (.tmp rfl) (.cons (.tmp rfl) .nil))) ?_
  refine JL.defer rfl (.tmp rfl) ?_
  refine JL.nil ?_
  refine thenQ.n ?_
  refine J.seq ?_
  refine J.region_lit ?_
  refine JL.q rfl rfl rfl (QW.move (.tmp rfl)) ?_
  refine JL.q rfl rfl rfl (QW.build (idx := [0]) pl63 z63 rfl (.cons (.tmp rfl) .nil) rfl rfl rfl rfl) ?_
  refine JL.box_agg (.tmp rfl) rfl fun b8 => ?_
  refine JL.q rfl rfl rfl (QW.assign (.tmp rfl)) ?_
  refine JL.nil ?_
  refine thenQ.n ?_
  refine J.seq ?_
  refine J.region_lit ?_
  refine JL.q rfl rfl rfl (QW.move (.tmp rfl)) ?_
  refine JL.callPF [.p] gofn31 rfl Lent.nil (fun _ => (.cons (.tmp rfl) (.cons .const .nil))) (sexpr_n 8 (b := b8) (r := b) (p := 0) (by omega) (by omega) (by omega)) (.inl rfl) (fun k10 x10 o10 h10 => ?_) (fun k10 => ?_)
  rotate_left
  · skip
    refine thenQ.p ?_
    exact ⟨_, _, [], [_, _], selP [.p, .p] _, _, rfl, rfl, gofn30, sel_perm [.p, .p] _, DC.mono (dec1_pan _ _ _ _ _ rfl) fun r u' o ⟨h1, h2, h3⟩ => by subst h1 h2 h3; exact ⟨⟨_, rfl⟩, rfl, _, [], _, RetEv.two rfl (REv.cell 1 ty32 rfl rfl rfl rfl (.aggL (.cons (.refl _) (.cons (.refl _) (.cons (.refl _) (.cons (.nil true false _) .nil)))))) (REv.cell1 0 ty27 rfl rfl rfl (.refl _)), List.Perm.refl _, (congrArg Res.ret (decAV_of (decV_fail k10))).symm, rfl⟩⟩
  obtain ⟨e10, r10, p10, iv10, oi10, hd10, rfl, hV10, rfl⟩ := h10
  have hi10 := hV10.i1
  first | refine JL.store_boxF 2 ty32 (.tmp rfl) rfl (.tmp rfl) (by first | rfl | assumption) (rfl) (rfl) rfl ?_ | refine JL.store_boxF 2 ty32 (.tmp rfl) rfl (.tmp rfl) (by first | rfl | assumption) (rfl) (EX.cs_length _ _) rfl ?_ | refine JL.store_boxF 2 ty32 (.tmp rfl) rfl (.tmp rfl) (by first | rfl | assumption) (EX.cs_length _ _) (rfl) rfl ?_ | refine JL.store_boxF 2 ty32 (.tmp rfl) rfl (.tmp rfl) (by first | rfl | assumption) (EX.cs_length _ _) (EX.cs_length _ _) rfl ?_ | refine JL.store_box 2 ty32 (.tmp rfl) rfl (.tmp rfl) (by first | rfl | assumption) rfl rfl rfl rfl ?_ | refine JL.store_box 2 ty32 (.tmp rfl) rfl (.tmp rfl) (by first | rfl | assumption) (EX.cs_length _ _) rfl rfl rfl ?_
  refine JL.nil ?_
  refine thenQ.n ?_
  refine J.seq ?_
  refine J.region_lit ?_
  refine JL.q rfl rfl rfl (QW.move (.tmp rfl)) ?_
  refine JL.q rfl rfl rfl (QW.nil_ptr (.tmp rfl)) ?_
  refine JL.q rfl rfl rfl (QW.field_ptr fo63_0 (.tmp rfl) rfl) ?_
  refine JL.q rfl rfl rfl (QW.load_box1 0 ty40 (.tmp rfl) rfl rfl) ?_
  refine JL.q rfl rfl rfl (by first | exact QW.len_slE sl40 (.tmp rfl) (bytesAV_length _) | exact QW.len_slE sl40 (.tmp rfl) (EX.css_length _ _) | exact QW.len_sl sl40 (.tmp rfl) | exact QW.len_nil sl40 (.tmp rfl)) ?_
  refine JL.q rfl rfl rfl (QW.eql (.tmp rfl) .const) ?_
  refine JL.callPF [] gofn32 rfl Lent.nil (fun _ => (.cons (.tmp rfl) (.cons .const .nil))) (need_ok _ _) (.inl rfl) (fun k17 x17 o17 h17 => ?_) (fun k17 => ?_)
  rotate_left
  · skip
    refine thenQ.p ?_
    exact ⟨_, _, [], [_, _], selP [.k, .p, .p] _, _, rfl, rfl, gofn30, sel_perm [.k, .p, .p] _, DC.mono (dec1_pan _ _ _ _ _ rfl) fun r u' o ⟨h1, h2, h3⟩ => by subst h1 h2 h3; exact ⟨⟨_, rfl⟩, rfl, _, [], _, RetEv.two rfl (REv.cell 1 ty32 rfl rfl rfl rfl (.aggL (.cons (.refl _) (.cons (.refl _) (.cons (.refl _) (.cons (.nil true false _) .nil)))))) (REv.cell1 0 ty27 rfl rfl rfl (.refl _)), List.Perm.refl _, (congrArg Res.ret (decAV_of (decV_tail hd10 (fun h => k17 (by rw [h]; rfl))))).symm, rfl⟩⟩
  obtain ⟨rfl, rfl⟩ := h17
  refine JL.nil ?_
  refine thenQ.n ?_
  refine J.seq ?_
  refine J.region_lit ?_
  have hr10 : r10 = [] := by cases r10 with | nil => rfl | cons x q => (simp at k17; omega)
  refine JL.q rfl rfl rfl (QW.move (.tmp rfl)) ?_
  refine JL.q rfl rfl rfl (QW.nil_ptr (.tmp rfl)) ?_
  refine JL.q rfl rfl rfl (QW.field_ptr fo63_1 (.tmp rfl) rfl) ?_
  refine JL.q rfl rfl rfl (QW.load_box1 0 ty3 (.tmp rfl) rfl rfl) ?_
  refine JL.q rfl rfl rfl (QW.leq (.tmp rfl) .const) ?_
  refine JL.callPF [] gofn32 rfl Lent.nil (fun _ => (.cons (.tmp rfl) (.cons .const .nil))) (need_ok _ _) (.inl rfl) (fun k23 x23 o23 h23 => ?_) (fun k23 => ?_)
  rotate_left
  · skip
    refine thenQ.p ?_
    exact ⟨_, _, [], [_, _], selP [.k, .p, .p] _, _, rfl, rfl, gofn30, sel_perm [.k, .p, .p] _, DC.mono (dec1_pan _ _ _ _ _ rfl) fun r u' o ⟨h1, h2, h3⟩ => by subst h1 h2 h3; exact ⟨⟨_, rfl⟩, rfl, _, [], _, RetEv.two rfl (REv.cell 1 ty32 rfl rfl rfl rfl (.aggL (.cons (.refl _) (.cons (.refl _) (.cons (.refl _) (.cons (.nil true false _) .nil)))))) (REv.cell1 0 ty27 rfl rfl rfl (.refl _)), List.Perm.refl _, (congrArg Res.ret (decAV_of (decV_cnt hd10 hr10 (by simpa using k23)))).symm, rfl⟩⟩
  obtain ⟨rfl, rfl⟩ := h23
  refine JL.nil ?_
  refine thenQ.n ?_
  refine J.seq ?_
  refine J.close 3 rfl hV10.is.clos rfl (fun _ h => by cases h) ?_
  refine J.region_lit ?_
  have hp10 : p10 ≤ 64 := by simpa using k23
  refine JL.q rfl rfl rfl (by first | exact QW.load_box 2 ty32 (.tmp rfl) rfl rfl rfl | exact QW.load_box 2 ty32 (.tmp rfl) rfl (take_at (EX.cs_length _ _) rfl) (EX.cs_length _ _)) ?_
  first | refine JL.store_boxF 2 ty32 (.tmp rfl) rfl (.tmp rfl) (by first | rfl | assumption) (rfl) (rfl) rfl ?_ | refine JL.store_boxF 2 ty32 (.tmp rfl) rfl (.tmp rfl) (by first | rfl | assumption) (rfl) (EX.cs_length _ _) rfl ?_ | refine JL.store_boxF 2 ty32 (.tmp rfl) rfl (.tmp rfl) (by first | rfl | assumption) (EX.cs_length _ _) (rfl) rfl ?_ | refine JL.store_boxF 2 ty32 (.tmp rfl) rfl (.tmp rfl) (by first | rfl | assumption) (EX.cs_length _ _) (EX.cs_length _ _) rfl ?_ | refine JL.store_box 2 ty32 (.tmp rfl) rfl (.tmp rfl) (by first | rfl | assumption) rfl rfl rfl rfl ?_ | refine JL.store_box 2 ty32 (.tmp rfl) rfl (.tmp rfl) (by first | rfl | assumption) (EX.cs_length _ _) rfl rfl rfl ?_
  refine JL.store_box 1 ty27 (.tmp rfl) rfl .const (by first | rfl | assumption) rfl rfl rfl rfl ?_
  refine JL.nil ?_
  refine thenQ.n ?_
  refine J.ret ?_
  exact ⟨_, _, [], [_, _], selP [.k, .p, .p] _, _, rfl, rfl, gofn30, sel_perm [.k, .p, .p] _, DC.mono (dec1_ret _ _ _ _) fun r u' o ⟨h1, h2, h3⟩ => by subst h1 h2 h3; exact ⟨⟨_, rfl⟩, rfl, _, [], _, RetEv.two rfl (REv.cell 1 ty32 rfl rfl rfl rfl (EX.raw_le (by simp))) (REv.cell1 0 ty27 rfl rfl rfl (.refl _)), List.Perm.refl _, (congrArg Res.ret (decAV_of (decV_fine hd10 hr10 hp10))).symm, rfl⟩⟩
end Go.Proofs.Ytlppnhkjonmniaa.J

/- Walks: ExprBack, ExprCut, ExprOwn. -/
namespace Go.Proofs.Ytlppnhkjonmniaa.J
open Go Go.RowKit
set_option linter.unusedVariables false
set_option linter.unusedSimpArgs false
set_option maxRecDepth 10000
set_option maxHeartbeats 4000000
theorem EncR.fresh (e : EX) : FreshX (EncR e) := fun x o ⟨v, hx, ho⟩ => by
  subst hx ho
  exact ⟨.tup (FlL.cons (.c _) (FlL.cons (.c _) .nil)), fun y hy => by obtain rfl := List.mem_singleton.1 hy; exact .arr (by rw [bytesAV_flat]; show FlL _ (List.map (AV.c ∘ fun b : UInt8 => Value.int .u8 (b.toNat : Int)) _); rw [← List.map_map]; exact FlL.c _)⟩
theorem splice_all {ys zs : List AV} (h : zs.length = ys.length) : splice ys 0 zs = zs := by unfold splice; simp [h]
theorem decAV_fresh (b : List UInt8) : Fresh (decAV b) := .tup (FlL.cons (EX.fresh _) (FlL.cons (.c _) .nil))
theorem encL_reach (e : EX) : (encL e).length ≤ reach := by have := encL_len e; unfold reach; omega
theorem encL_eq {e : EX} (h : e.err = 0) : encL e = e.enc := by unfold encL; rw [if_pos h]
theorem spoilB_ok {v : Value} {cs : List (List AV)} (hc : ∀ x ∈ cs, ∃ n : Int, x = [.c (.int .u8 n)]) (hl : cs.length ≤ reach) : AC Try.prog 20 [.arr v eU8 cs] [.c v] (RetR fun x o => x = .tup [] ∧ ∃ cs2, o = [.arr v eU8 cs2] ∧ cs2.length = cs.length) := by
  have hl2 : cs.length ≤ 140737488351232 := hl
  refine AC.of_J Try.func20 rfl Try.ntmps20 rfl fun w0 A0 => ?_
  refine J.seq ?_
  refine J.region_lit ?_
  refine JL.q rfl rfl rfl (QW.assign .const) ?_
  refine JL.nil ?_
  refine thenQ.n ?_
  refine J.block ?_
  refine J.loopK (ι := Nat × List (List AV)) [0] (fun ⟨j, cs2⟩ => [(2, .c (.int .i64 (j : Int)))]) (fun ⟨j, cs2⟩ oo => List.set oo 0 (.arr v eU8 cs2)) (fun ⟨j, cs2⟩ => cs2.length = cs.length ∧ (∀ x ∈ cs2, ∃ n : Int, x = [.c (.int .u8 n)])) (fun ⟨j, cs2⟩ => cs2.length - j) ⟨0, cs⟩ (⟨rfl, hc⟩) (Wk.re (.cons rfl (.refl _) (.cons rfl (.refl _) .nil)) (Reown.refl _) (fun _ h => by first | exact h | simp [h])) ?_
  intro ⟨j, cs2⟩ ⟨hcl, h8⟩
  refine J.conv (by (try simp only [id_eq, stepsO, List.map_cons, List.map_nil, valO, nthO, curO, mrg, List.reverse_cons, List.reverse_nil, List.nil_append, List.cons_append, List.append_nil, List.getElem?_cons_zero, List.getElem?_cons_succ, Option.map_some, Option.getD_some, List.set_cons_zero, List.set_cons_succ, AV.cellsOf, splice_zero, splice_succ, Nat.zero_add, Nat.reduceAdd]); rfl) ?_
  refine J.seq ?_
  refine J.seq ?_
  refine J.region_lit ?_
  refine JL.q rfl rfl rfl (QW.move (.tmp rfl)) ?_
  refine JL.q rfl rfl rfl (QW.move (.tmp rfl)) ?_
  refine JL.q rfl rfl rfl (QW.len_arr 0 sl40 (.tmp rfl) rfl) ?_
  refine JL.q rfl rfl rfl (QW.lss (.tmp rfl) (.tmp rfl)) ?_
  refine JL.nil ?_
  refine thenQ.n ?_
  refine J.cond (.tmp rfl) (fun c1 => ?_) (fun c1 => ?_)
  · skip
    have hlt : j < cs2.length := by (simp at c1; omega)
    obtain ⟨y, hy⟩ := h8 _ (List.getElem_mem hlt)
    refine J.skip ?_
    refine thenQ.n ?_
    refine J.seq ?_
    refine J.block ?_
    refine J.region_lit ?_
    refine JL.q rfl rfl rfl (QW.move (.tmp rfl)) ?_
    refine JL.q rfl rfl rfl (QW.move (.tmp rfl)) ?_
    refine JL.q rfl rfl rfl (QW.move (.tmp rfl)) ?_
    refine JL.q rfl rfl rfl (QW.move (.tmp rfl)) ?_
    refine JL.q rfl rfl rfl (QW.index_arr 0 sl40 ty5 rfl (.tmp rfl) rfl (.tmp rfl) (by first | rfl | omega | (simp; done)) (by first | omega | (simp; omega)) rfl) ?_
    refine JL.q rfl rfl rfl (by first | exact QW.load_gp1 (o := 0) 0 ty5 (.tmp rfl) rfl (by rw [List.getElem?_eq_getElem hlt, hy]) rfl rfl | exact QW.load_gp1 0 ty5 (.tmp rfl) rfl (by rw [List.getElem?_eq_getElem hlt, hy]) rfl rfl) ?_
    refine JL.q rfl rfl rfl (QW.inv (.tmp rfl) rfl) ?_
    refine JL.q rfl rfl rfl (QW.index_arr 0 sl40 ty5 rfl (.tmp rfl) rfl (.tmp rfl) (by first | rfl | omega | (simp; done)) (by first | omega | (simp; omega)) rfl) ?_
    refine JL.store_gp (o := 0) 0 ty5 (.tmp rfl) rfl (by rw [List.getElem?_eq_getElem hlt, hy]) rfl (.tmp rfl) rfl rfl rfl rfl rfl ?_
    refine JL.nil ?_
    refine blkQ.n ?_
    refine thenQ.n ?_
    refine J.region_lit ?_
    refine JL.q rfl rfl rfl (QW.move (.tmp rfl)) ?_
    refine JL.q rfl rfl rfl (QW.add (.tmp rfl) .const (by first | exact w64n (by first | rfl | omega | (simp; done)) (by omega) | exact w64 (by omega) | rfl)) ?_
    refine JL.q rfl rfl rfl (QW.assign (.tmp rfl)) ?_
    refine JL.nil ?_
    refine thenQ.n ?_
    exact ⟨⟨j + 1, _⟩, ⟨by simp [hcl], fun x hx => (List.mem_or_eq_of_mem_set hx).elim (h8 x) (fun h => ⟨_, h.trans rfl⟩)⟩, by simp; omega, Wk.re (.cons rfl (.refl _) (.cons rfl (.refl _) .nil)) (Reown.refl _) (fun _ h => by first | exact h | simp [h])⟩
  · skip
    skip
    refine J.exit ?_
    refine thenQ.x ?_
    refine thenQ.x ?_
    refine blkQ.hit ?_
    exact ⟨_, selP [.p] _, _, RetEv.none rfl , rfl, sel_perm [.p] _, ⟨_, rfl, rfl, _, rfl, hcl⟩⟩
theorem exprOwn_ok {e : EX} (hw : e.wf) : Fn Try.prog 7 [.agg (e.cs false)] (.c (.bool true)) := by
  have hel := encL_len e
  have hal : e.args.length * 56 ≤ reach := by
    cases e with
    | mk o b t l => exact hw.inv.2.2.2.1
  refine AC.of_J Try.func7 rfl Try.ntmps7 rfl fun w0 A0 => ?_
  refine J.seq ?_
  refine J.region_lit ?_
  refine JL.box_agg (.tmp rfl) rfl fun b1 => ?_
  refine JL.q rfl rfl rfl (QW.assign .const) ?_
  refine JL.nil ?_
  refine thenQ.n ?_
  refine J.seq ?_
  refine J.seq ?_
  refine J.region_lit ?_
  refine JL.q rfl rfl rfl (QW.call gofn8 .nil (alive14_ok)) ?_
  refine JL.q rfl rfl rfl (QW.not (.tmp rfl)) ?_
  refine JL.nil ?_
  refine thenQ.n ?_
  refine J.cond (.tmp rfl) (fun c1 => ?_) (fun c1 => ?_)
  · skip
    exact absurd c1 (by simp)
    --closed
  · skip
    skip
    refine J.skip ?_
    refine thenQ.n ?_
    refine J.seq ?_
    refine J.region_lit ?_
    refine JL.q rfl rfl rfl (by first | exact QW.load_box 0 ty25 (.tmp rfl) rfl rfl rfl | exact QW.load_box 0 ty25 (.tmp rfl) rfl (take_at (EX.cs_length _ _) rfl) (EX.cs_length _ _)) ?_
    refine JL.callRF [] gofn10 rfl Lent.nil (fun _ => (.cons (.tmp rfl) .nil)) (of14_own Xc.self hw) (.inl rfl) fun x12 o12 h12 => ?_
    obtain ⟨iv12, oi12, rfl, rfl, hV12⟩ := h12
    refine JL.alloc z32 rfl rfl fun b3 => ?_
    have hi12 := hV12.i1
    first | refine JL.store_boxF 0 ty32 (.tmp rfl) rfl (.tmp rfl) (by first | rfl | assumption) (rfl) (rfl) rfl ?_ | refine JL.store_boxF 0 ty32 (.tmp rfl) rfl (.tmp rfl) (by first | rfl | assumption) (rfl) (EX.cs_length _ _) rfl ?_ | refine JL.store_boxF 0 ty32 (.tmp rfl) rfl (.tmp rfl) (by first | rfl | assumption) (EX.cs_length _ _) (rfl) rfl ?_ | refine JL.store_boxF 0 ty32 (.tmp rfl) rfl (.tmp rfl) (by first | rfl | assumption) (EX.cs_length _ _) (EX.cs_length _ _) rfl ?_ | refine JL.store_box 0 ty32 (.tmp rfl) rfl (.tmp rfl) (by first | rfl | assumption) rfl rfl rfl rfl ?_ | refine JL.store_box 0 ty32 (.tmp rfl) rfl (.tmp rfl) (by first | rfl | assumption) (EX.cs_length _ _) rfl rfl rfl ?_
    refine JL.nil ?_
    refine thenQ.n ?_
    refine J.seq ?_
    refine J.region_lit ?_
    refine JL.q rfl rfl rfl (by first | exact QW.load_box 0 ty32 (.tmp rfl) rfl rfl rfl | exact QW.load_box 0 ty32 (.tmp rfl) rfl (take_at (EX.cs_length _ _) rfl) (EX.cs_length _ _)) ?_
    refine JL.callRF [.k, .k, .l] gofn16 rfl (Lent.cons (hV12.lent) Lent.nil) (fun _ => (.cons (Ev.le (.tmp rfl) (EX.raw_le (by simp))) .nil)) (enc_ok (fr := false) (e := e) Xc.self hw) (.inr (EncR.fresh e)) fun x15 o15 h15 => ?_
    obtain ⟨v15, rfl, rfl⟩ := h15
    refine JL.q rfl rfl rfl (QW.move (.tmp rfl)) ?_
    refine JL.q rfl rfl rfl (QW.extract (.tmp rfl) rfl) ?_
    refine JL.q rfl rfl rfl (QW.extract (.tmp rfl) rfl) ?_
    refine JL.q rfl rfl rfl (QW.assign (.tmp rfl)) ?_
    refine JL.q rfl rfl rfl (QW.assign (.tmp rfl)) ?_
    refine JL.nil ?_
    refine thenQ.n ?_
    refine J.seq ?_
    refine J.seq ?_
    obtain ⟨ce, ue, o1, p1, p2, p3, p4, p5, p6⟩ := hV12.is.inv
    rw [EX.css_length] at p2
    refine J.reown (Reown.split2 (i := 2) rfl p6) ?_
    refine J.region_lit ?_
    refine JL.q rfl rfl rfl (QW.assign .const) ?_
    refine JL.nil ?_
    refine thenQ.n ?_
    refine J.block ?_
    refine J.loopK (ι := Nat × List (List AV)) [1, 2, 3, 4, 5] (fun ⟨j, ce2⟩ => [(6, .c (.int .i64 (j : Int)))]) (fun ⟨j, ce2⟩ oo => List.set oo 2 (.arr iv12 eEX ce2)) (fun ⟨j, ce2⟩ => ce2.length = ce.length ∧ (∀ x ∈ ce2, x.length = 4)) (fun ⟨j, ce2⟩ => ce2.length - j) ⟨0, ce⟩ (⟨rfl, p3⟩) (Wk.re (.cons rfl (.refl _) (.cons rfl (.refl _) (.cons rfl (.refl _) (.cons rfl (.refl _) (.cons rfl (.refl _) (.cons rfl (.refl _) .nil)))))) (Reown.refl _) (fun _ h => by first | exact h | simp [h])) ?_
    intro ⟨j, ce2⟩ ⟨hcl, hc4⟩
    refine J.conv (by (try simp only [id_eq, stepsO, List.map_cons, List.map_nil, valO, nthO, curO, mrg, List.reverse_cons, List.reverse_nil, List.nil_append, List.cons_append, List.append_nil, List.getElem?_cons_zero, List.getElem?_cons_succ, Option.map_some, Option.getD_some, List.set_cons_zero, List.set_cons_succ, AV.cellsOf, splice_zero, splice_succ, Nat.zero_add, Nat.reduceAdd]); rfl) ?_
    refine J.seq ?_
    refine J.seq ?_
    refine J.region_lit ?_
    refine JL.q rfl rfl rfl (QW.move (.tmp rfl)) ?_
    refine JL.q rfl rfl rfl (QW.field_ptr fo32_3 (.tmp rfl) rfl) ?_
    refine JL.q rfl rfl rfl (QW.load_box1 0 ty30 (.tmp rfl) rfl rfl) ?_
    refine JL.q rfl rfl rfl (QW.len_arr 2 sl30 (.tmp rfl) rfl) ?_
    refine JL.q rfl rfl rfl (QW.lss (.tmp rfl) (.tmp rfl)) ?_
    refine JL.nil ?_
    refine thenQ.n ?_
    refine J.cond (.tmp rfl) (fun c2 => ?_) (fun c2 => ?_)
    · skip
      have hlt : j < ce2.length := by (simp at c2; omega)
      have hj9 : j ≤ 9223372036854775800 := by (unfold reach at hal; omega)
      refine J.skip ?_
      refine thenQ.n ?_
      refine J.seq ?_
      refine J.block ?_
      refine J.region_lit ?_
      refine JL.q rfl rfl rfl (QW.field_ptr fo32_3 (.tmp rfl) rfl) ?_
      refine JL.q rfl rfl rfl (QW.load_box1 0 ty30 (.tmp rfl) rfl rfl) ?_
      refine JL.q rfl rfl rfl (QW.move (.tmp rfl)) ?_
      refine JL.q rfl rfl rfl (QW.build (idx := [0]) pl32 z32 rfl (.cons .const .nil) rfl rfl rfl rfl) ?_
      refine JL.q rfl rfl rfl (QW.index_arr 2 sl30 ty32 rfl (.tmp rfl) rfl (.tmp rfl) (by first | rfl | omega | (simp; done)) (by first | omega | (simp; omega)) rfl) ?_
      refine JL.store_gp 2 ty32 (.tmp rfl) rfl (List.getElem?_eq_getElem hlt) rfl (.tmp rfl) rfl rfl rfl (congrArg (List.set _ _) (splice_all (by rw [hc4 _ (List.getElem_mem hlt)]; rfl))) rfl ?_
      refine JL.nil ?_
      refine blkQ.n ?_
      refine thenQ.n ?_
      refine J.region_lit ?_
      refine JL.q rfl rfl rfl (QW.move (.tmp rfl)) ?_
      refine JL.q rfl rfl rfl (QW.add (.tmp rfl) .const (by first | exact w64n (by first | rfl | omega | (simp; done)) (by omega) | exact w64 (by omega) | rfl)) ?_
      refine JL.q rfl rfl rfl (QW.assign (.tmp rfl)) ?_
      refine JL.nil ?_
      refine thenQ.n ?_
      exact ⟨⟨j + 1, _⟩, ⟨by simp [hcl], fun x hx => (List.mem_or_eq_of_mem_set hx).elim (hc4 x) (fun h => by rw [h]; rfl)⟩, by simp; omega, Wk.re (.cons rfl (.refl _) (.cons rfl (.refl _) (.cons rfl (.refl _) (.cons rfl (.refl _) (.cons rfl (.refl _) (.cons rfl (.refl _) .nil)))))) (Reown.refl _) (fun _ h => by first | exact h | simp [h])⟩
    · skip
      skip
      refine J.exit ?_
      refine thenQ.x ?_
      refine thenQ.x ?_
      refine blkQ.hit ?_
      refine thenQ.n ?_
      refine J.seq ?_
      refine J.region_lit ?_
      refine JL.q rfl rfl rfl (QW.move (.tmp rfl)) ?_
      refine JL.q rfl rfl rfl (QW.callLF [.k, .k, .k, .l] gofn17 (Lent.cons (Lent.arr (by rw [bytesAV_length]; show (encL e).length * 1 ≤ _; unfold reach; omega)) Lent.nil) rfl (by first | rfl | simp [mrg]) (fun _ => (.cons (Ev.le (.tmp rfl) (.fact (.head _) (.refl _))) .nil)) (decode_ok (b := encL e) (encL_reach e)) (decAV_fresh _)) ?_
      refine JL.q rfl rfl rfl (QW.move (.tmp rfl)) ?_
      refine JL.q rfl rfl rfl (QW.extract (.tmp rfl) rfl) ?_
      refine JL.q rfl rfl rfl (QW.extract (.tmp rfl) rfl) ?_
      refine JL.alloc z32 rfl rfl fun b7 => ?_
      first | refine JL.store_boxF 0 ty32 (.tmp rfl) rfl (.tmp rfl) (by first | rfl | assumption) (rfl) (rfl) rfl ?_ | refine JL.store_boxF 0 ty32 (.tmp rfl) rfl (.tmp rfl) (by first | rfl | assumption) (rfl) (EX.cs_length _ _) rfl ?_ | refine JL.store_boxF 0 ty32 (.tmp rfl) rfl (.tmp rfl) (by first | rfl | assumption) (EX.cs_length _ _) (rfl) rfl ?_ | refine JL.store_boxF 0 ty32 (.tmp rfl) rfl (.tmp rfl) (by first | rfl | assumption) (EX.cs_length _ _) (EX.cs_length _ _) rfl ?_ | refine JL.store_box 0 ty32 (.tmp rfl) rfl (.tmp rfl) (by first | rfl | assumption) rfl rfl rfl rfl ?_ | refine JL.store_box 0 ty32 (.tmp rfl) rfl (.tmp rfl) (by first | rfl | assumption) (EX.cs_length _ _) rfl rfl rfl ?_
      refine JL.q rfl rfl rfl (QW.assign (.tmp rfl)) ?_
      refine JL.nil ?_
      refine thenQ.n ?_
      refine J.seq ?_
      refine J.region_lit ?_
      refine JL.q rfl rfl rfl (QW.move (.tmp rfl)) ?_
      refine JL.callRF [.k, .k, .k, .k, .p] gofn20 rfl Lent.nil (fun _ => (.cons (.tmp rfl) .nil)) (spoilB_ok (fun x hx => by obtain ⟨y, _, rfl⟩ := List.mem_map.1 hx; exact ⟨_, rfl⟩) (by rw [bytesAV_length]; exact encL_reach e)) (.inl rfl) fun x36 o36 h36 => ?_
      obtain ⟨rfl, cs36, rfl, hcs36⟩ := h36
      refine JL.nil ?_
      refine thenQ.n ?_
      refine J.seq ?_
      refine J.seq ?_
      refine J.region_lit ?_
      refine JL.q rfl rfl rfl (QW.move (.tmp rfl)) ?_
      refine JL.q rfl rfl rfl (QW.call gofn11 (.cons (.tmp rfl) .nil) (num14_ok _)) ?_
      refine JL.q rfl rfl rfl (QW.neq (.tmp rfl) .const) ?_
      refine JL.nil ?_
      refine thenQ.n ?_
      refine J.cond (.tmp rfl) (fun c3 => ?_) (fun c3 => ?_)
      · skip
        have he : e.err ≠ 0 := by simpa using c3
        refine J.seq ?_
        refine J.region_lit ?_
        refine JL.q rfl rfl rfl (QW.move (.tmp rfl)) ?_
        refine JL.q rfl rfl rfl (QW.len_arr 4 sl40 (.tmp rfl) rfl) ?_
        refine JL.q rfl rfl rfl (QW.eql (.tmp rfl) .const) ?_
        refine JL.q rfl rfl rfl (QW.assign (.tmp rfl)) ?_
        refine JL.nil ?_
        refine thenQ.n ?_
        refine J.ret ?_
        refine thenQ.r ?_
        exact ⟨_, selP [.k, .k, .k, .k, .k, .k] _, _, RetEv.one rfl (REv.tmp rfl (.refl _)), rfl, sel_perm [.k, .k, .k, .k, .k, .k] _, ⟨ret_b (by rw [hcs36, bytesAV_length]; simp [encL, he]), rfl⟩⟩
      · skip
        have he : e.err = 0 := by simpa using c3
        have hd : decV (encL e) = (e, 0) := by rw [encL_eq he]; exact decV_enc hw he
        refine J.skip ?_
        refine thenQ.n ?_
        refine J.seq ?_
        refine J.region_lit ?_
        refine JL.q rfl rfl rfl (QW.move (.tmp rfl)) ?_
        refine JL.q rfl rfl rfl (QW.call gofn11 (.cons (.tmp rfl) .nil) (num14_ok _)) ?_
        refine JL.q rfl rfl rfl (QW.eql (.tmp rfl) .const) ?_
        refine JL.q rfl rfl rfl (QW.move (.tmp rfl)) ?_
        refine JL.g rfl rfl rfl rfl rfl (fun hg => (by first | exact QW.load_box 0 ty32 (.tmp rfl) rfl rfl rfl | exact QW.load_box 0 ty32 (.tmp rfl) rfl (take_at (EX.cs_length _ _) rfl) (EX.cs_length _ _))) ?_
        refine JL.g rfl rfl rfl rfl rfl (fun hg => (by first | exact QW.load_box 2 ty25 (.tmp rfl) rfl rfl rfl | exact QW.load_box 2 ty25 (.tmp rfl) rfl (take_at (EX.cs_length _ _) rfl) (EX.cs_length _ _))) ?_
        refine JL.g rfl rfl rfl rfl rfl (fun hg => (QW.call gofn15 (.cons (.when rfl hg) (.cons (.when rfl hg) .nil)) (elalike_ok Xc.self Xc.self (decV_wf _) hw))) ?_
        refine JL.g rfl rfl rfl rfl rfl (fun hg => (QW.eql (.when rfl hg) .const)) ?_
        refine JL.q rfl rfl rfl (QW.pick_and (.tmp rfl) (.tmp rfl)) ?_
        refine JL.q rfl rfl rfl (QW.assign (.tmp rfl)) ?_
        refine JL.nil ?_
        refine thenQ.n ?_
        refine J.ret ?_
        exact ⟨_, selP [.k, .k, .k, .k, .k, .k] _, _, RetEv.one rfl (REv.tmp rfl (.refl _)), rfl, sel_perm [.k, .k, .k, .k, .k, .k] _, ⟨ret_b (by rw [hd]; simp [EX.same_refl]), rfl⟩⟩
end Go.Proofs.Ytlppnhkjonmniaa.J

