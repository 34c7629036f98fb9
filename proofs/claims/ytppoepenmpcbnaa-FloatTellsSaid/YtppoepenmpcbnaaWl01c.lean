/- Walks of the laws of layer 1: FloatFloors. -/
import Derived.Test.YtppoepenmpcbnaaWl01b
import Derived.Test.YtppoepenmpcbnaaF3
namespace Go.Proofs.Ytppoepenmpcbnaa.J
open Go Go.RowKit
set_option linter.unusedVariables false
set_option linter.unusedSimpArgs false
set_option maxRecDepth 10000

theorem floorC_lt {b : Nat} : floorC b < 2 ^ 64 := by
  unfold floorC; split
  · decide
  · exact write_lt64 _
theorem arith_lt {op : BinOp} {a b : Nat} : arithN op a b < 2 ^ 64 := by
  unfold arithN
  cases h : farithN op a b with
  | none => decide
  | some c => exact (farith_some h).2
theorem class_ge {b : Nat} : 4 ≤ classN b ↔ infR ≤ rung b := by
  have := @class_fin b
  omega


theorem floatFloors_ok (b : Nat) (hb : b < 2 ^ 64) : Fn Try.prog 8 [.c (.int .u64 (b : Int))] (.c (.bool true)) := by
  have hfl := @floorC_lt b
  have hal := @arith_lt .sub b (floorC b)
  refine AC.of_J Try.func8 rfl Try.ntmps8 rfl fun w0 A0 => ?_
  refine J.seq ?_
  refine J.region_lit ?_
  refine JL.q rfl rfl rfl (QW.assign .const) ?_
  refine JL.nil ?_
  refine thenQ.n ?_
  refine J.seq ?_
  refine J.seq ?_
  refine J.region_lit ?_
  refine JL.q rfl rfl rfl (QW.call gofn11 .nil (by (apply alive01_ok <;> first | assumption | omega))) ?_
  refine JL.q rfl rfl rfl (QW.not (.tmp rfl)) ?_
  refine JL.nil ?_
  refine thenQ.n ?_
  refine J.cond (.tmp rfl) (fun c1 => absurd c1 (by decide)) (fun c1 => ?_)
  refine J.skip ?_
  refine thenQ.n ?_
  refine J.seq ?_
  refine J.region_lit ?_
  refine JL.q rfl rfl rfl (QW.move (.tmp rfl)) ?_
  refine JL.q rfl rfl rfl (QW.call gofn24 (.cons (.tmp rfl) .nil) (by (apply floor_ok <;> first | assumption | omega))) ?_
  refine JL.q rfl rfl rfl (QW.assign (.tmp rfl)) ?_
  refine JL.nil ?_
  refine thenQ.n ?_
  refine J.seq ?_
  refine J.seq ?_
  refine J.region_lit ?_
  refine JL.q rfl rfl rfl (QW.move (.tmp rfl)) ?_
  refine JL.q rfl rfl rfl (QW.call gofn12 (.cons (.tmp rfl) .nil) (by (apply class_ok <;> first | assumption | omega))) ?_
  refine JL.q rfl rfl rfl (QW.geq (.tmp rfl) .const) ?_
  refine JL.nil ?_
  refine thenQ.n ?_
  refine J.cond (.tmp rfl) (fun c2 => ?_) (fun c2 => ?_)
  ·
    simp at c2
    have hf : infR ≤ rung b := class_ge.1 (by omega)
    refine J.seq ?_
    refine J.region_lit ?_
    refine JL.q rfl rfl rfl (QW.move (.tmp rfl)) ?_
    refine JL.q rfl rfl rfl (QW.move (.tmp rfl)) ?_
    refine JL.q rfl rfl rfl (QW.call gofn14 (.cons (.tmp rfl) .nil) (by (apply canon_ok <;> first | assumption | omega))) ?_
    refine JL.q rfl rfl rfl (QW.eql (.tmp rfl) (.tmp rfl)) ?_
    refine JL.q rfl rfl rfl (QW.assign (.tmp rfl)) ?_
    refine JL.nil ?_
    refine thenQ.n ?_
    refine J.ret ?_
    refine thenQ.r ?_
    exact ⟨_, [], _, RetEv.one rfl (REv.tmp rfl (.refl _)), rfl, List.Perm.refl _, ret_bool (by rw [floor_inf hb hf]; simp), rfl⟩
  ·
    simp at c2
    have hf : rung b < infR := class_fin.1 (by omega)
    refine J.skip ?_
    refine thenQ.n ?_
    refine J.seq ?_
    refine J.region_lit ?_
    refine JL.q rfl rfl rfl (QW.move (.tmp rfl)) ?_
    refine JL.q rfl rfl rfl (QW.call gofn24 (.cons (.tmp rfl) .nil) (by (apply floor_ok <;> first | assumption | omega))) ?_
    refine JL.q rfl rfl rfl (QW.move (.tmp rfl)) ?_
    refine JL.q rfl rfl rfl (QW.eql (.tmp rfl) (.tmp rfl)) ?_
    refine JL.q rfl rfl rfl (QW.move (.tmp rfl)) ?_
    refine JL.g rfl rfl rfl rfl rfl (fun hg => (QW.move (.tmp rfl))) ?_
    refine JL.g rfl rfl rfl rfl rfl (fun hg => (QW.call gofn13 (.cons (.when rfl hg) .nil) ((by first | exact order_ok _ hb | exact order_ok _ hfl | exact order_ok _ hal | exact order_ok 4607182418800017408 (by decide))))) ?_
    refine JL.g rfl rfl rfl rfl rfl (fun hg => (QW.move (.tmp rfl))) ?_
    refine JL.g rfl rfl rfl rfl rfl (fun hg => (QW.call gofn13 (.cons (.when rfl hg) .nil) ((by first | exact order_ok _ hb | exact order_ok _ hfl | exact order_ok _ hal | exact order_ok 4607182418800017408 (by decide))))) ?_
    refine JL.g rfl rfl rfl rfl rfl (fun hg => (QW.leq (.when rfl hg) (.when rfl hg))) ?_
    refine JL.q rfl rfl rfl (QW.pick_and (.tmp rfl) (.tmp rfl)) ?_
    refine JL.q rfl rfl rfl (QW.move (.tmp rfl)) ?_
    refine JL.g rfl rfl rfl rfl rfl (fun hg => (QW.move (.tmp rfl))) ?_
    refine JL.g rfl rfl rfl rfl rfl (fun hg => (QW.move (.tmp rfl))) ?_
    refine JL.g rfl rfl rfl rfl rfl (fun hg => (QW.call gofn18 (.cons (.when rfl hg) (.cons (.when rfl hg) .nil)) (by (apply sub_ok <;> first | assumption | omega)))) ?_
    refine JL.g rfl rfl rfl rfl rfl (fun hg => (QW.call gofn13 (.cons (.when rfl hg) .nil) ((by first | exact order_ok _ hb | exact order_ok _ hfl | exact order_ok _ hal | exact order_ok 4607182418800017408 (by decide))))) ?_
    refine JL.g rfl rfl rfl rfl rfl (fun hg => (QW.call gofn13 (.cons (by first | exact .const | exact .func | exact Ev.le .const (by exact .nil _ _ _)) .nil) ((by first | exact order_ok _ hb | exact order_ok _ hfl | exact order_ok _ hal | exact order_ok 4607182418800017408 (by decide))))) ?_
    refine JL.g rfl rfl rfl rfl rfl (fun hg => (QW.leq (.when rfl hg) (.when rfl hg))) ?_
    refine JL.q rfl rfl rfl (QW.pick_and (.tmp rfl) (.tmp rfl)) ?_
    refine JL.q rfl rfl rfl (QW.assign (.tmp rfl)) ?_
    refine JL.nil ?_
    refine thenQ.n ?_
    refine J.ret ?_
    exact ⟨_, [], _, RetEv.one rfl (REv.tmp rfl (.refl _)), rfl, List.Perm.refl _, ret_bool (by rw [floor_again hf]; have h1 := floor_order hb hf; have h2 := floor_near hb hf; simp; omega), rfl⟩

end Go.Proofs.Ytppoepenmpcbnaa.J
