/- Walks of the laws of layer 1: FloatOne. -/
import Derived.Test.YtppoepenmpcbnaaWl01b
namespace Go.Proofs.Ytppoepenmpcbnaa.J
open Go Go.RowKit
set_option linter.unusedVariables false
set_option linter.unusedSimpArgs false
set_option maxRecDepth 10000
set_option maxHeartbeats 4000000

def oneL (a b : Nat) : List Nat := [canonN a, arithN .add a b, arithN .sub a b, arithN .mul a b, arithN .quo a b, floorC a]
def oneAV (l : List Nat) : List (List AV) := l.map fun x : Nat => [AV.c (.int .u64 (x : Int))]
theorem canon_canon (b : Nat) : canonN (canonN b) = canonN b := by
  unfold canonN
  cases h : isNan b with
  | true => rfl
  | false => simp [h]
theorem canon_arith (op : BinOp) (a b : Nat) : canonN (arithN op a b) = arithN op a b ∧ arithN op a b < 2 ^ 64 := by
  unfold arithN
  cases h : farithN op a b with
  | none => exact ⟨by decide, by decide⟩
  | some c => obtain ⟨h1, h2⟩ := farith_some h; exact ⟨by simp [canonN, h1], h2⟩
theorem canon_floor (b : Nat) : canonN (floorC b) = floorC b ∧ floorC b < 2 ^ 64 := by
  unfold floorC
  cases h : isNan b with
  | true => rw [if_pos rfl]; exact ⟨by decide, by decide⟩
  | false => exact ⟨by simp [canonN, floorN, write_nonnan (integral_nonnan h .down)], write_lt64 _⟩
theorem one_all {a b : Nat} (ha : a < 2 ^ 64) : ∀ x ∈ oneL a b, canonN x = x ∧ x < 2 ^ 64 := by
  intro x hx
  simp only [oneL, List.mem_cons, List.not_mem_nil, or_false] at hx
  rcases hx with rfl | rfl | rfl | rfl | rfl | rfl
  · exact ⟨canon_canon a, by unfold canonN oneNan; split <;> omega⟩
  all_goals first | exact canon_arith _ _ _ | exact canon_floor _
theorem one_get {a b k : Nat} (ha : a < 2 ^ 64) (hk : k < 6) : ∃ x : Nat, (oneAV (oneL a b))[k]? = some [AV.c (.int .u64 (x : Int))] ∧ canonN x = x ∧ x < 2 ^ 64 := by
  have hlt : k < (oneL a b).length := hk
  refine ⟨(oneL a b)[k], by simp [oneAV, hlt], one_all ha _ (List.getElem_mem _)⟩
theorem one_test {x : Nat} (h : canonN x = x) : (((canonN x : Int) != (x : Int)) || ((classN x == 5) && ((x : Int) != 9221120237041090560))) = false := by
  rw [h]
  by_cases h5 : classN x = 5
  · have h6 := class_nan.1 h5
    have h7 : x = oneNan := by rw [← h]; simp [canonN, h6]
    rw [h7]; decide
  · simp [h5]


theorem floatOne_ok (a b : Nat) (ha : a < 2 ^ 64) (hb : b < 2 ^ 64) : Fn Try.prog 7 [.c (.int .u64 (a : Int)), .c (.int .u64 (b : Int))] (.c (.bool true)) := by
  refine AC.of_J Try.func7 rfl Try.ntmps7 rfl fun w0 A0 => ?_
  refine J.seq ?_
  refine J.region_lit ?_
  refine JL.q rfl rfl rfl (QW.assign .const) ?_
  refine JL.nil ?_
  refine thenQ.n ?_
  refine J.seq ?_
  refine J.seq ?_
  refine J.region_lit ?_
  refine JL.q rfl rfl rfl (QW.call gofn11 .nil (by (apply alive01_ok <;> first | assumption | omega))) ?_
  refine JL.q rfl rfl rfl (QW.not (.tmp rfl)) ?_
  refine JL.nil ?_
  refine thenQ.n ?_
  refine J.cond (.tmp rfl) (fun c1 => absurd c1 (by decide)) (fun c1 => ?_)
  refine J.skip ?_
  refine thenQ.n ?_
  refine J.seq ?_
  refine J.region_lit ?_
  refine JL.q rfl rfl rfl (QW.move (.tmp rfl)) ?_
  refine JL.q rfl rfl rfl (QW.call gofn14 (.cons (.tmp rfl) .nil) (by (apply canon_ok <;> first | assumption | omega))) ?_
  refine JL.q rfl rfl rfl (QW.move (.tmp rfl)) ?_
  refine JL.q rfl rfl rfl (QW.move (.tmp rfl)) ?_
  refine JL.q rfl rfl rfl (QW.call gofn16 (.cons (.tmp rfl) (.cons (.tmp rfl) .nil)) (by (apply add_ok <;> first | assumption | omega))) ?_
  refine JL.q rfl rfl rfl (QW.move (.tmp rfl)) ?_
  refine JL.q rfl rfl rfl (QW.move (.tmp rfl)) ?_
  refine JL.q rfl rfl rfl (QW.call gofn18 (.cons (.tmp rfl) (.cons (.tmp rfl) .nil)) (by (apply sub_ok <;> first | assumption | omega))) ?_
  refine JL.q rfl rfl rfl (QW.move (.tmp rfl)) ?_
  refine JL.q rfl rfl rfl (QW.move (.tmp rfl)) ?_
  refine JL.q rfl rfl rfl (QW.call gofn20 (.cons (.tmp rfl) (.cons (.tmp rfl) .nil)) (by (apply mul_ok <;> first | assumption | omega))) ?_
  refine JL.q rfl rfl rfl (QW.move (.tmp rfl)) ?_
  refine JL.q rfl rfl rfl (QW.move (.tmp rfl)) ?_
  refine JL.q rfl rfl rfl (QW.call gofn22 (.cons (.tmp rfl) (.cons (.tmp rfl) .nil)) (by (apply quo_ok <;> first | assumption | omega))) ?_
  refine JL.q rfl rfl rfl (QW.move (.tmp rfl)) ?_
  refine JL.q rfl rfl rfl (QW.call gofn24 (.cons (.tmp rfl) .nil) (by (apply floor_ok <;> first | assumption | omega))) ?_
  refine JL.q rfl rfl rfl (QW.buildSlice (idx := [0, 1, 2, 3, 4, 5]) (xs := oneAV (oneL a b)) sl32 el22 z22 rfl (.cons (.tmp rfl) (.cons (.tmp rfl) (.cons (.tmp rfl) (.cons (.tmp rfl) (.cons (.tmp rfl) (.cons (.tmp rfl) .nil)))))) rfl rfl rfl rfl rfl rfl rfl rfl rfl) ?_
  refine JL.q rfl rfl rfl (QW.assign (.tmp rfl)) ?_
  refine JL.nil ?_
  refine thenQ.n ?_
  refine J.seq ?_
  refine J.seq ?_
  refine J.region_lit ?_
  refine JL.q rfl rfl rfl (QW.assign .const) ?_
  refine JL.nil ?_
  refine thenQ.n ?_
  refine J.block ?_
  refine J.loop (ι := Nat) (fun k => ⟨57, [(5, .sl true true et22 (oneAV (oneL a b))), (6, .c (.int .i64 (k : Int)))], [], [], []⟩) (fun k => k ≤ 6) (fun k => 6 - k) 0 (by simp) (Wk.mk (.cons rfl (.refl _) (.cons rfl (.refl _) .nil)) (by first | exact List.Perm.refl _ | simp) (by simp)) ?_
  intro k hk
  refine J.seq ?_
  refine J.seq ?_
  refine J.region_lit ?_
  refine JL.q rfl rfl rfl (QW.move (.tmp rfl)) ?_
  refine JL.q rfl rfl rfl (QW.move (.tmp rfl)) ?_
  refine JL.q rfl rfl rfl (by first | exact QW.len_sl sl32 (.tmp rfl) | exact QW.len_arr 0 sl32 (.tmp rfl) rfl | exact QW.len_arr 1 sl32 (.tmp rfl) rfl | exact QW.len_arr 2 sl32 (.tmp rfl) rfl | exact QW.len_nil sl32 (.tmp rfl)) ?_
  refine JL.q rfl rfl rfl (QW.lss (.tmp rfl) (.tmp rfl)) ?_
  refine JL.nil ?_
  refine thenQ.n ?_
  refine J.cond (.tmp rfl) (fun c2 => ?_) (fun c2 => ?_)
  ·
    have hk6 : k < 6 := by simp [oneAV, oneL] at c2; omega
    obtain ⟨x, hx, hcan, hlt⟩ := one_get (b := b) ha hk6
    refine J.skip ?_
    refine thenQ.n ?_
    refine J.seq ?_
    refine J.block ?_
    refine J.seq ?_
    refine J.region_anyK mixed (by kernel_rfl) (by kernel_rfl) ?_
    refine .cons [] rfl rfl rfl (.q rfl (QW.move (.tmp rfl))) ?_
    refine .cons [] rfl rfl rfl (.q rfl (QW.move (.tmp rfl))) ?_
    refine .cons [32, 33] rfl rfl rfl (.q rfl (QW.index_sl sl32 ty22 rfl (.tmp rfl) (.tmp rfl) (by first | rfl | simp) (by exact hx))) ?_
    refine .cons [34] rfl rfl rfl (.q rfl (QW.load_ref1 ty22 (.tmp rfl) rfl)) ?_
    refine .cons [35] rfl rfl rfl (.q rfl (QW.call gofn14 (.cons (.tmp rfl) .nil) (by (apply canon_ok <;> first | assumption | omega)))) ?_
    refine .cons [] rfl rfl rfl (.q rfl (QW.move (.tmp rfl))) ?_
    refine .cons [] rfl rfl rfl (.q rfl (QW.move (.tmp rfl))) ?_
    refine .cons [37, 38] rfl rfl rfl (.q rfl (QW.index_sl sl32 ty22 rfl (.tmp rfl) (.tmp rfl) (by first | rfl | simp) (by exact hx))) ?_
    refine .cons [39] rfl rfl rfl (.q rfl (QW.load_ref1 ty22 (.tmp rfl) rfl)) ?_
    refine .cons [36, 40] rfl rfl rfl (.q rfl (QW.neq (.tmp rfl) (.tmp rfl))) ?_
    refine .cons [41] rfl rfl rfl (.q rfl (QW.move (.tmp rfl))) ?_
    refine .cons [42] rfl rfl rfl (.g rfl rfl rfl (fun hg => (QW.move (.tmp rfl)))) ?_
    refine .cons [42] rfl rfl rfl (.g rfl rfl rfl (fun hg => (QW.move (.tmp rfl)))) ?_
    refine .cons [43, 44, 42] rfl rfl rfl (.g rfl rfl rfl (fun hg => (QW.index_sl sl32 ty22 rfl (.when rfl hg) (.when rfl hg) (by first | rfl | simp) (by exact hx)))) ?_
    refine .cons [45, 42] rfl rfl rfl (.g rfl rfl rfl (fun hg => (QW.load_ref1 ty22 (.when rfl hg) rfl))) ?_
    refine .cons [46, 42] rfl rfl rfl (.g rfl rfl rfl (fun hg => (QW.call gofn12 (.cons (.when rfl hg) .nil) (by (apply class_ok <;> first | assumption | omega))))) ?_
    refine .cons [47, 42] rfl rfl rfl (.g rfl rfl rfl (fun hg => (QW.eql (.when rfl hg) .const))) ?_
    refine .cons [48, 42] rfl rfl rfl (.g rfl rfl rfl (fun hg => (QW.move (.when rfl hg)))) ?_
    refine .cons [49] rfl rfl rfl (.gg rfl rfl rfl (fun hg => (QW.move (.tmp rfl)))) ?_
    refine .cons [49] rfl rfl rfl (.gg rfl rfl rfl (fun hg => (QW.move (.tmp rfl)))) ?_
    refine .cons [50, 51, 49] rfl rfl rfl (.gg rfl rfl rfl (fun hg => (QW.index_sl sl32 ty22 rfl (.when rfl hg) (.when rfl hg) (by first | rfl | simp) (by exact hx)))) ?_
    refine .cons [52, 49] rfl rfl rfl (.gg rfl rfl rfl (fun hg => (QW.load_ref1 ty22 (.when rfl hg) rfl))) ?_
    refine .cons [53, 49] rfl rfl rfl (.gg rfl rfl rfl (fun hg => (QW.neq (.when rfl hg) .const))) ?_
    refine .cons [49, 54, 42] rfl rfl rfl (.g rfl rfl rfl (fun hg => (by first | exact QW.pick_and (.when rfl hg) (.tmp rfl) | exact QW.pick_and2 hg (.when rfl hg) (.tmp rfl)))) ?_
    refine .cons [42, 55] rfl rfl rfl (.q rfl (QW.pick_or (.tmp rfl) (.tmp rfl))) ?_
    refine .nil ?_
    refine thenQ.n ?_
    refine J.cond (.tmp rfl) (fun c3 => absurd c3 (by rw [Bool.not_eq_true]; exact one_test hcan)) (fun c3 => ?_)
    refine J.skip ?_
    refine blkQ.n ?_
    refine thenQ.n ?_
    refine J.region_lit ?_
    refine JL.q rfl rfl rfl (QW.move (.tmp rfl)) ?_
    refine JL.q rfl rfl rfl (QW.add (.tmp rfl) .const (by first | exact w64n (by first | rfl | omega | (simp; done)) (by omega) | exact w64 (by omega) | rfl)) ?_
    refine JL.q rfl rfl rfl (QW.assign (.tmp rfl)) ?_
    refine JL.nil ?_
    refine thenQ.n ?_
    exact ⟨k + 1, (show k + 1 ≤ 6 by omega), (show 6 - (k + 1) < 6 - k by omega), Wk.mk (.cons rfl (.refl _) (.cons rfl (.refl _) .nil)) (by first | exact List.Perm.refl _ | simp) (by simp)⟩
  ·
    refine J.exit ?_
    refine thenQ.x ?_
    refine thenQ.x ?_
    refine blkQ.hit ?_
    refine thenQ.n ?_
    refine J.seq ?_
    refine J.region_lit ?_
    refine JL.q rfl rfl rfl (QW.assign .const) ?_
    refine JL.nil ?_
    refine thenQ.n ?_
    refine J.ret ?_
    exact ⟨_, [], _, RetEv.one rfl (REv.tmp rfl (.refl _)), rfl, List.Perm.refl _, rfl, rfl⟩

end Go.Proofs.Ytppoepenmpcbnaa.J
