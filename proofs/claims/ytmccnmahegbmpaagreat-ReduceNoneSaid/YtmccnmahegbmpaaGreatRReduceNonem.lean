/- The law ReduceNone of the seat: at every input it returns true, and the input reads behind the call as it read before. Conditions: none beside the statement's own. -/
import Derived.Test.YtmccnmahegbmpaaGreatX6RReduceNone
import Derived.Test.YtmccnmahegbmpaaGreatRows
import Derived.WalkKit
import Derived.ProofKit
import Derived.OpenShut
import Derived.ShutString
import Derived.ChangeOld
import Derived.Below
import Derived.SizedLaws
namespace Go.Proofs.YtmccnmahegbmpaaGreat.reduceNone
open Go.ChangeShapes Go.WideShapes Go.ChangeAt Go.RowKit Go.Proofs.YtmccnmahegbmpaaGreat.J
open Go.ChangeMaps (open_string shut_string)
set_option linter.unusedVariables false
theorem own : ownKnob Tryz.prog.godebug = none := by kernel_rfl
set_option maxRecDepth 100000 in
theorem lifted (os : Os) (started : os.Started) (H : Type) (enc : TypeId × Value → H) :
    ReturnsInHanded {} Tryz.checked os 6 .any (Rows.reduceNoneSpec.pre6 enc Tryz.prog Tryz.f6 Rows.reduceNoneRow.domain false) (Rows.reduceNoneSpec.post enc Tryz.prog Tryz.f6 false true false false) := by
  refine returnsInHanded_of_change_sized (C := Tryz.checked) own started (by kernel_rfl) Tryz.func6
    (ChangeSpec.witness6 (enc := enc) (C := Tryz.checked) false ⟨#[], #[.agg #[.int .i64 0, .int .u64 0, .string ByteArray.empty, .slice none 0 0, .slice none 0 0, .slice none 0 0], .agg #[.int .i64 0, .int .u64 0, .string ByteArray.empty, .slice none 0 0, .slice none 0 0], .string ByteArray.empty, .agg #[.int .i64 0, .int .u64 0, .string ByteArray.empty, .slice none 0 0, .slice none 0 0]], []⟩ 8 (by kernel_rfl) (by kernel_rfl) (by kernel_rfl) (by kernel_rfl)) ?_
  intro W base args ds gs before hval0 hW hcnd hsz0 _
  have hsz : (DataW.weightsEach Tryz.prog (Tryz.f6.params.toList ++ Rows.reduceNoneSpec.plain.varTypes Tryz.prog) (ds ++ gs)).all (· ≤ reachBytes) = true := hsz0
  have hval : ∀ (j : Nat) t v, Tryz.f6.params[j]? = some t → args[j]? = some v → Value.okWide Tryz.prog W .any base t v := hval0
  have hW' := hW
  obtain ⟨p, q, hA0, hV, rfl, hfz, hnd⟩ := hW
  have hA : DataW.TrodAll enc Tryz.prog W 0 (fun _ => true) true Tryz.f6.params.toList args.toList ds p := hA0
  rw [Tryz.params6] at hA hval hsz
  obtain ⟨v0, vs0, d0, ds0, p0, q0, hargs, rfl, rfl, h0, r0⟩ := trodAll_cons hA
  obtain ⟨v1, vs1, d1, ds1, p1, q1, rfl, rfl, rfl, h1, r1⟩ := trodAll_cons r0
  obtain ⟨v2, vs2, d2, ds2, p2, q2, rfl, rfl, rfl, h2, r2⟩ := trodAll_cons r1
  obtain ⟨v3, vs3, d3, ds3, p3, q3, rfl, rfl, rfl, h3, r3⟩ := trodAll_cons r2
  obtain ⟨rfl, rfl, rfl⟩ := trodAll_nil r3
  obtain rfl : args = #[v0, v1, v2, v3] := by cases args; simp_all
  obtain ⟨rfl, rfl⟩ := trodVars_none hV
  have hlt := fun x (hx : x ∈ _) => hW'.lt x hx
  obtain ⟨a0, w0, e0⟩ := par_struct Tryz.underlying29 (hval 0 29 v0 rfl rfl) h0 (Fits.of hsz (j := 0) rfl rfl) (fun m cs' y hy hf => PgT.rd m cs' y hy hf)
  obtain ⟨a1, w1, e1⟩ := par_struct Tryz.underlying26 (hval 1 26 v1 rfl rfl) h1 (Fits.of hsz (j := 1) rfl rfl) (fun m cs' y hy hf => V.rd m cs' y hy hf)
  obtain ⟨s2, rfl, rfl, rfl, y2⟩ := open_string Tryz.underlying9 (hval 2 9 v2 rfl rfl) h2
  have w2 : s2.data.toList.length ≤ reach := sized_string hsz (j := 2) (t := 9) rfl rfl
  obtain ⟨a3, w3, e3⟩ := par_struct Tryz.underlying26 (hval 3 26 v3 rfl rfl) h3 (Fits.of hsz (j := 3) rfl rfl) (fun m cs' y hy hf => V.rd m cs' y hy hf)
  refine (AC.callsB (reduceNone_ok (name := s2.data.toList) w0 w1 w3 w2) W _ (RdL.consA e0 (RdL.consA e1 (RdL.consA (.c _) (RdL.consA e3 RdL.nil))))).mono fun e W' ⟨he, bel⟩ => ?_
  subst he
  exact ⟨_, rfl, _, _, _, [], _, [], hW', trodAll_mk1 (shut_bool Tryz.underlying4 _), (trodAll_cons_mk (trod_same (by kernel_rfl) (by kernel_rfl) (of_decide_eq_true (by kernel_rfl)) h0 (fun x hx => hlt x (by simp [hx])) bel) (trodAll_cons_mk (trod_same (by kernel_rfl) (by kernel_rfl) (of_decide_eq_true (by kernel_rfl)) h1 (fun x hx => hlt x (by simp [hx])) bel) (trodAll_cons_mk (shut_string Tryz.underlying9 y2) (trodAll_cons_mk (trod_same (by kernel_rfl) (by kernel_rfl) (of_decide_eq_true (by kernel_rfl)) h3 (fun x hx => hlt x (by simp [hx])) bel) trodAll_mk0)))), rfl, bel.frame _, fun h => by cases h⟩
theorem over : Rows.reduceNoneRow.holds Tryz.pinned (OpenSpec.ofChange Rows.reduceNoneSpec) :=
  OpenClaim.holds_of_wide 6 Tryz.f6 rfl rfl rfl rfl rfl rfl rfl ⟨rfl, rfl, rfl, rfl, rfl⟩ rfl rfl rfl rfl rfl (by kernel_rfl) Tryz.func6 (by kernel_rfl)
    (of_decide_eq_true (by kernel_rfl)) (by unfold Func.isWrapper; first | (rw [if_pos (by decide +kernel)]; kernel_rfl) | (rw [if_neg (by decide +kernel)]; exact ⟨rfl, rfl⟩))
    (fun os started H enc _ => lifted os started H enc)
theorem proved : Rows.ReduceNoneSaid := over
end Go.Proofs.YtmccnmahegbmpaaGreat.reduceNone
namespace Go.Proofs.YtmccnmahegbmpaaGreat
/-- The row, under a short name, for the claim. -/
theorem reduceNone_holds : Rows.ReduceNoneSaid := reduceNone.proved
#print axioms reduceNone_holds
end Go.Proofs.YtmccnmahegbmpaaGreat
