/- Texts of this proof, laid together. -/
import Derived.Test.YtmccnmahegbmpaaGreatX3RReduceOthers
set_option linter.unusedVariables false
set_option linter.unusedSimpArgs false
/- Walks: slices.Insert of one element, slices.Delete of one. -/
namespace Go.Proofs.YtmccnmahegbmpaaGreat.J
open Go Go.RowKit
set_option maxRecDepth 10000
set_option maxHeartbeats 4000000
theorem overStr : ∀ u v w, (callFunc 101 #[u, v]).run Tryz.prog w = ((Extern.SlicesOverlaps.overlaps #[23, 23] #[4] #[u, v]).run Tryz.prog w).andThen fun v w' => .ok (.value v) w' := fun u v w => run_callFunc_extern (P := Tryz.prog) Tryz.func101 (by kernel_rfl) (by kernel_rfl) (by kernel_rfl) (by kernel_rfl) _ w
theorem insStr_ok {v : Value} {xs : List (List AV)} {ys : List AV} {i : Nat} {fr clip : Bool} (hi : i ≤ xs.length) (hy : ys.length = 1) (hr : (xs.length + 1) * 16 ≤ reach) : AC Tryz.prog 88 [.arr v eStr xs] [.c v, .c (.int .i64 (i : Int)), .sl fr clip eStr [ys]] (RetR (CloneR eStr (xs.take i ++ [ys] ++ xs.drop i))) := by
  have hr2 := hr
  unfold reach at hr2
  refine AC.of_J Tryz.func88 rfl Tryz.ntmps88 rfl fun w0 A0 => ?_
  refine Zs (Zq rfl (QW.assign .const) (Zn (Zs (Zq rfl (QW.move (.tmp rfl)) (Zq rfl (QW.move (.tmp rfl)) (JL.cutAny 0 sl23 ty9 (.tmp rfl) rfl (.tmp rfl) rfl hi rfl fun u12 => Zn (Zs (Zq rfl (QW.move (.tmp rfl)) ?_))))))))
  refine Zq rfl (QW.len_sl sl23 (.tmp rfl)) (Zq rfl (QW.assign (.tmp rfl)) (Zn (J.seq (Zs (Zq rfl (QW.move (.tmp rfl)) (Zq rfl (QW.eql (.tmp rfl) .const) (Zn ?_)))))))
  refine J.cond (.tmp rfl) (fun c1 => absurd c1 (by simp)) (fun c1 => ?_)
  refine Zk (Zs (Zq rfl (QW.move (.tmp rfl)) (Zq rfl (QW.len_arr 0 sl23 (.tmp rfl) rfl) (Zq rfl (QW.assign (.tmp rfl)) (Zn (J.seq (Zs (Zq rfl (QW.move (.tmp rfl)) (Zq rfl (QW.move (.tmp rfl)) ?_)))))))))
  refine Zq rfl (QW.eql (.tmp rfl) (.tmp rfl)) (Zn ?_)
  refine J.cond (.tmp rfl) (fun c2 => ?_) (fun c2 => ?_)
  · skip
    obtain rfl : i = xs.length := by simp at c2; omega
    exact Zs (Zq rfl (QW.move (.tmp rfl)) (Zq rfl (QW.move (.tmp rfl)) (JL.append 0 sl23 el9 rfl (.tmp rfl) rfl (srcA_sl sl23 (.tmp rfl)) (by omega) rfl fun v25 => JL.isSlice 0 rfl fun hs1 => Zq rfl (QW.assign (.tmp rfl)) (Zn (J.ret (thenQ.r (Zr [.p] (RetEv.one rfl (REv.tmp rfl lr)) rfl ⟨_, rfl, _, rfl, hs1, by simp; rfl⟩)))))))
  have hlt : i < xs.length := by simp at c2; omega
  refine Zk (J.seq (J.seq (J.lay 0 rfl (fun a0 hv hx => absurd hlt (by rw [hx]; simp)) fun b cap sp hv hcap hsz hfl => ?_)))
  subst hv
  have hX : xs.flatten.length = xs.length * 1 := flatten_length xs hsz
  have hBl : (xs.flatten ++ sp.map AV.c).length = (cap + 1) * 1 := by rw [List.length_append, List.length_map]; exact hfl
  refine J.region_lit (Zq rfl (QW.move (.tmp rfl)) (Zq rfl (QW.move (.tmp rfl)) (Zq rfl (QW.add (.tmp rfl) (.tmp rfl) (w64n (m := xs.length + 1) rfl (by omega))) (Zq rfl (QW.move (.tmp rfl)) (Zq rfl (QW.cap_c sl23 (.tmp rfl)) (Zq rfl (QW.gtr (.tmp rfl) (.tmp rfl)) (Zn ?_)))))))
  refine J.cond (.tmp rfl) (fun c3 => ?_) (fun c3 => ?_)
  · skip
    have hgr : cap + 1 < xs.length + 1 := by simp at c3; omega
    refine Zs (Zq rfl (QW.move (.tmp rfl)) (Zq rfl (QW.move (.tmp rfl)) (Zq rfl (QW.cutH (h := i) sl23 ty9 (.tmp rfl) (.tmp rfl) rfl (by omega)) (Zq rfl (QW.move (.tmp rfl)) (Zq rfl (QW.move (.tmp rfl)) (Zq rfl (QW.add (.tmp rfl) (.tmp rfl) (w64n (m := xs.length + 1) rfl (by omega))) (Zq rfl (QW.move (.tmp rfl)) (Zq rfl (QW.sub (.tmp rfl) (.tmp rfl) (w64n (m := xs.length + 1 - i) (by omega) (by omega))) (JL.appMake 0 sl23 iu3 el9 rfl (.tmp rfl) rfl (.tmp rfl) (by omega) (by omega) (by show 0 + i * 1 ≤ _; rw [hBl]; omega) (by rw [show i + (xs.length + 1 - i) = xs.length + 1 by omega]; exact hr) (by unfold reach; omega) rfl fun b2 cap2 tl hc2 hhl htl => ?_)))))))))
    have hNl : (((xs.flatten ++ sp.map AV.c).drop 0).take (i * 1) ++ tl).length = (cap2 + 1) * 1 := by rw [List.length_append]; exact (congrArg (· + tl.length) hhl).trans htl
    have htl2 : i * 1 + tl.length = (cap2 + 1) * 1 := htl
    have hml : (((xs.flatten ++ sp.map AV.c).drop (i * 1)).take (xs.flatten.length - i * 1)).length = xs.flatten.length - i * 1 := by rw [List.length_take, List.length_drop, hBl]; omega
    refine Zq rfl (QW.assign (.tmp rfl)) (Zn (Zs (Zq rfl (QW.move (.tmp rfl)) (Zq rfl (QW.move (.tmp rfl)) (Zq rfl (QW.cutL (l := i) (off' := i * 1) sl23 ty9 (.tmp rfl) (.tmp rfl) rfl (by omega) (by omega) (by rw [if_neg (by omega)]; omega)) ?_)))))
    refine Zq rfl (QW.move (.tmp rfl)) (JL.copyN 0 sl23 ty9 (.tmp rfl) rfl (SrcN.one (.tmp rfl) rfl hy) (Nat.min_eq_left (by omega)) (by rw [hNl, hy]; omega) rfl ?_)
    refine Zn (J.seq (J.region_tailK 8 mixed (by kernel_rfl) (by kernel_rfl) (by kernel_rfl) rfl ?_))
    refine .cons [] rfl rfl rfl (.q rfl (QW.move (.tmp rfl))) ?_
    refine .cons [] rfl rfl rfl (.q rfl (QW.move (.tmp rfl))) ?_
    refine .cons [] rfl rfl rfl (.q rfl (QW.move (.tmp rfl))) ?_
    refine .cons [47, 48] rfl rfl rfl (.q rfl (QW.add (.tmp rfl) (.tmp rfl) (w64n (m := i + 1) rfl (by omega)))) ?_
    refine .cons [46, 49] rfl rfl rfl (.q rfl (QW.cutL (l := i + 1) (off' := i * 1 + 1) sl23 ty9 (.tmp rfl) (.tmp rfl) rfl (by omega) (by omega) (by rw [if_neg (by omega)]; omega))) ?_
    refine .cons [] rfl rfl rfl (.q rfl (QW.move (.tmp rfl))) ?_
    refine .cons [] rfl rfl rfl (.q rfl (QW.move (.tmp rfl))) ?_
    refine .cons [51, 52] rfl rfl rfl (.q rfl (QW.cutL (l := i) (off' := i * 1) sl23 ty9 (.tmp rfl) (.tmp rfl) rfl (by omega) (by omega) (by rw [if_neg (by omega)]; omega))) ?_
    refine .nil ?_
    refine JL.copyN 0 sl23 ty9 (.tmp rfl) rfl (SrcN.boxE (i2 := 1) (mm := xs.length - i) (q := xs.flatten.length - i * 1) (.tmp rfl) rfl (by omega) (Nat.le_refl _) (by rw [hBl]; omega)) (Nat.min_eq_left (by omega)) (by rw [splice_length (by rw [hNl, hy]; omega), hNl, hml]; omega) rfl ?_
    refine Zn (J.seq (J.fold 0 (xs.take i ++ [ys] ++ xs.drop i) rfl (v := sv b2 0 (i + (xs.length + 1 - i)) (cap2 + 1)) (by rw [ins_len hi, show i + (xs.length + 1 - i) = xs.length + 1 by omega]) (by rw [ins_len hi]; omega) (ins_sz hsz hy) (by rw [splice_length (by rw [splice_length (by rw [hNl, hy]; omega), hNl, hml]; omega), splice_length (by rw [hNl, hy]; omega), hNl]; rfl) (by rw [ins_flen hsz hy, ins_flat hsz]; exact ins_grow (X := xs.flatten) (sp := sp.map AV.c) (tl := tl) (a := i * 1) (m := 1) (by omega) hy (by omega)) rfl ?_))
    exact J.region_lit (Zq rfl (QW.move (.tmp rfl)) (Zq rfl (QW.assign (.tmp rfl)) (Zn (J.ret (thenQ.r (Zr [.p, .k] (RetEv.one rfl (REv.tmp rfl lr)) rfl ⟨_, rfl, _, rfl, rfl, rfl⟩))))))
  have hroom : xs.length + 1 ≤ cap + 1 := by simp at c3; omega
  refine Zk (Zs (Zq rfl (QW.move (.tmp rfl)) (Zq rfl (QW.move (.tmp rfl)) (Zq rfl (QW.move (.tmp rfl)) (Zq rfl (QW.add (.tmp rfl) (.tmp rfl) (w64n (m := xs.length + 1) rfl (by omega))) (Zq rfl (QW.cutH (h := xs.length + 1) sl23 ty9 (.tmp rfl) (.tmp rfl) rfl (by omega)) (Zq rfl (QW.assign (.tmp rfl)) (Zn (J.seq ?_)))))))))
  refine Zs (Zq rfl (QW.move (.tmp rfl)) (Zq rfl (QW.move (.tmp rfl)) (Zq rfl (QW.move (.tmp rfl)) (Zq rfl (QW.move (.tmp rfl)) (Zq rfl (QW.add (.tmp rfl) (.tmp rfl) (w64n (m := i + 1) rfl (by omega))) (Zq rfl (QW.cutL (l := i + 1) (off' := i * 1 + 1) sl23 ty9 (.tmp rfl) (.tmp rfl) rfl (by omega) (by omega) (by rw [if_neg (by omega)]; omega)) ?_))))))
  refine Zq rfl (QW.apart 0 sl23 ty9 overStr (.tmp rfl) (.tmp rfl) rfl (by intro h0; simp at h0; subst h0; simp at hy) (by intro h0; have := congrArg List.length h0; rw [hBl] at this; simp at this)) ?_
  refine Zq rfl (QW.not (.tmp rfl)) (Zn ?_)
  refine J.cond (.tmp rfl) (fun c4 => ?_) (fun c4 => absurd c4 (by simp))
  refine J.seq ?_
  have hml : (((xs.flatten ++ sp.map AV.c).drop (i * 1)).take (xs.flatten.length - i * 1)).length = xs.flatten.length - i * 1 := by rw [List.length_take, List.length_drop, hBl]; omega
  refine J.region_tailK 8 mixed (by kernel_rfl) (by kernel_rfl) (by kernel_rfl) rfl ?_
  refine .cons [] rfl rfl rfl (.q rfl (QW.move (.tmp rfl))) ?_
  refine .cons [] rfl rfl rfl (.q rfl (QW.move (.tmp rfl))) ?_
  refine .cons [] rfl rfl rfl (.q rfl (QW.move (.tmp rfl))) ?_
  refine .cons [70, 71] rfl rfl rfl (.q rfl (QW.add (.tmp rfl) (.tmp rfl) (w64n (m := i + 1) rfl (by omega)))) ?_
  refine .cons [69, 72] rfl rfl rfl (.q rfl (QW.cutL (l := i + 1) (off' := i * 1 + 1) sl23 ty9 (.tmp rfl) (.tmp rfl) rfl (by omega) (by omega) (by rw [if_neg (by omega)]; omega))) ?_
  refine .cons [] rfl rfl rfl (.q rfl (QW.move (.tmp rfl))) ?_
  refine .cons [] rfl rfl rfl (.q rfl (QW.move (.tmp rfl))) ?_
  refine .cons [74, 75] rfl rfl rfl (.q rfl (QW.cutL (l := i) (off' := i * 1) sl23 ty9 (.tmp rfl) (.tmp rfl) rfl (by omega) (by omega) (by rw [if_neg (by omega)]; omega))) ?_
  refine .nil ?_
  refine JL.copyN 0 sl23 ty9 (.tmp rfl) rfl (SrcN.boxE (i2 := 0) (mm := xs.length - i) (q := xs.flatten.length - i * 1) (.tmp rfl) rfl (by omega) (by omega) (by rw [hBl]; omega)) (by show min _ _ = _; omega) (by rw [hBl, hml]; omega) rfl ?_
  refine Zn (Zs (Zq rfl (QW.move (.tmp rfl)) (Zq rfl (QW.move (.tmp rfl)) (Zq rfl (QW.cutL (l := i) (off' := i * 1) sl23 ty9 (.tmp rfl) (.tmp rfl) rfl (by omega) (by omega) (by rw [if_neg (by omega)]; omega)) ?_))))
  refine Zq rfl (QW.move (.tmp rfl)) (JL.copyN 0 sl23 ty9 (.tmp rfl) rfl (SrcN.one (.tmp rfl) rfl hy) (Nat.min_eq_left (by omega)) (by rw [splice_length (by rw [hBl, hml]; omega), hBl, hy]; omega) rfl ?_)
  refine Zn (J.seq (J.fold 0 (xs.take i ++ [ys] ++ xs.drop i) rfl (v := sv b 0 (xs.length + 1) (cap + 1)) (by rw [ins_len hi]) (by rw [ins_len hi]; omega) (ins_sz hsz hy) (by rw [splice_length (by rw [splice_length (by rw [hBl, hml]; omega), hBl, hy]; omega), splice_length (by rw [hBl, hml]; omega), hBl]; rfl) (by rw [ins_flen hsz hy, ins_flat hsz]; exact ins_shift (X := xs.flatten) (sp := sp.map AV.c) (a := i * 1) (m := 1) (by omega) hy (by rw [hBl]; omega)) rfl ?_))
  exact J.region_lit (Zq rfl (QW.move (.tmp rfl)) (Zq rfl (QW.assign (.tmp rfl)) (Zn (J.ret (thenQ.r (Zr [.p] (RetEv.one rfl (REv.tmp rfl lr)) rfl ⟨_, rfl, _, rfl, rfl, rfl⟩))))))
theorem overVal : ∀ u v w, (callFunc 103 #[u, v]).run Tryz.prog w = ((Extern.SlicesOverlaps.overlaps #[24, 24] #[4] #[u, v]).run Tryz.prog w).andThen fun v w' => .ok (.value v) w' := fun u v w => run_callFunc_extern (P := Tryz.prog) Tryz.func103 (by kernel_rfl) (by kernel_rfl) (by kernel_rfl) (by kernel_rfl) _ w
theorem insVal_ok {v : Value} {xs : List (List AV)} {ys : List AV} {i : Nat} {fr clip : Bool} (hi : i ≤ xs.length) (hy : ys.length = 5) (hr : (xs.length + 1) * 80 ≤ reach) : AC Tryz.prog 89 [.arr v eV xs] [.c v, .c (.int .i64 (i : Int)), .sl fr clip eV [ys]] (RetR (CloneR eV (xs.take i ++ [ys] ++ xs.drop i))) := by
  have hr2 := hr
  unfold reach at hr2
  refine AC.of_J Tryz.func89 rfl Tryz.ntmps89 rfl fun w0 A0 => ?_
  refine Zs (Zq rfl (QW.assign .const) (Zn (Zs (Zq rfl (QW.move (.tmp rfl)) (Zq rfl (QW.move (.tmp rfl)) (JL.cutAny 0 sl24 ty26 (.tmp rfl) rfl (.tmp rfl) rfl hi rfl fun u12 => Zn (Zs (Zq rfl (QW.move (.tmp rfl)) ?_))))))))
  refine Zq rfl (QW.len_sl sl24 (.tmp rfl)) (Zq rfl (QW.assign (.tmp rfl)) (Zn (J.seq (Zs (Zq rfl (QW.move (.tmp rfl)) (Zq rfl (QW.eql (.tmp rfl) .const) (Zn ?_)))))))
  refine J.cond (.tmp rfl) (fun c1 => absurd c1 (by simp)) (fun c1 => ?_)
  refine Zk (Zs (Zq rfl (QW.move (.tmp rfl)) (Zq rfl (QW.len_arr 0 sl24 (.tmp rfl) rfl) (Zq rfl (QW.assign (.tmp rfl)) (Zn (J.seq (Zs (Zq rfl (QW.move (.tmp rfl)) (Zq rfl (QW.move (.tmp rfl)) ?_)))))))))
  refine Zq rfl (QW.eql (.tmp rfl) (.tmp rfl)) (Zn ?_)
  refine J.cond (.tmp rfl) (fun c2 => ?_) (fun c2 => ?_)
  · skip
    obtain rfl : i = xs.length := by simp at c2; omega
    exact Zs (Zq rfl (QW.move (.tmp rfl)) (Zq rfl (QW.move (.tmp rfl)) (JL.append 0 sl24 el26 rfl (.tmp rfl) rfl (srcA_sl sl24 (.tmp rfl)) (by omega) rfl fun v25 => JL.isSlice 0 rfl fun hs1 => Zq rfl (QW.assign (.tmp rfl)) (Zn (J.ret (thenQ.r (Zr [.p] (RetEv.one rfl (REv.tmp rfl lr)) rfl ⟨_, rfl, _, rfl, hs1, by simp; rfl⟩)))))))
  have hlt : i < xs.length := by simp at c2; omega
  refine Zk (J.seq (J.seq (J.lay 0 rfl (fun a0 hv hx => absurd hlt (by rw [hx]; simp)) fun b cap sp hv hcap hsz hfl => ?_)))
  subst hv
  have hX : xs.flatten.length = xs.length * 5 := flatten_length xs hsz
  have hBl : (xs.flatten ++ sp.map AV.c).length = (cap + 1) * 5 := by rw [List.length_append, List.length_map]; exact hfl
  refine J.region_lit (Zq rfl (QW.move (.tmp rfl)) (Zq rfl (QW.move (.tmp rfl)) (Zq rfl (QW.add (.tmp rfl) (.tmp rfl) (w64n (m := xs.length + 1) rfl (by omega))) (Zq rfl (QW.move (.tmp rfl)) (Zq rfl (QW.cap_c sl24 (.tmp rfl)) (Zq rfl (QW.gtr (.tmp rfl) (.tmp rfl)) (Zn ?_)))))))
  refine J.cond (.tmp rfl) (fun c3 => ?_) (fun c3 => ?_)
  · skip
    have hgr : cap + 1 < xs.length + 1 := by simp at c3; omega
    refine Zs (Zq rfl (QW.move (.tmp rfl)) (Zq rfl (QW.move (.tmp rfl)) (Zq rfl (QW.cutH (h := i) sl24 ty26 (.tmp rfl) (.tmp rfl) rfl (by omega)) (Zq rfl (QW.move (.tmp rfl)) (Zq rfl (QW.move (.tmp rfl)) (Zq rfl (QW.add (.tmp rfl) (.tmp rfl) (w64n (m := xs.length + 1) rfl (by omega))) (Zq rfl (QW.move (.tmp rfl)) (Zq rfl (QW.sub (.tmp rfl) (.tmp rfl) (w64n (m := xs.length + 1 - i) (by omega) (by omega))) (JL.appMake 0 sl24 iu3 el26 rfl (.tmp rfl) rfl (.tmp rfl) (by omega) (by omega) (by show 0 + i * 5 ≤ _; rw [hBl]; omega) (by rw [show i + (xs.length + 1 - i) = xs.length + 1 by omega]; exact hr) (by unfold reach; omega) rfl fun b2 cap2 tl hc2 hhl htl => ?_)))))))))
    have hNl : (((xs.flatten ++ sp.map AV.c).drop 0).take (i * 5) ++ tl).length = (cap2 + 1) * 5 := by rw [List.length_append]; exact (congrArg (· + tl.length) hhl).trans htl
    have htl2 : i * 5 + tl.length = (cap2 + 1) * 5 := htl
    have hml : (((xs.flatten ++ sp.map AV.c).drop (i * 5)).take (xs.flatten.length - i * 5)).length = xs.flatten.length - i * 5 := by rw [List.length_take, List.length_drop, hBl]; omega
    refine Zq rfl (QW.assign (.tmp rfl)) (Zn (Zs (Zq rfl (QW.move (.tmp rfl)) (Zq rfl (QW.move (.tmp rfl)) (Zq rfl (QW.cutL (l := i) (off' := i * 5) sl24 ty26 (.tmp rfl) (.tmp rfl) rfl (by omega) (by omega) (by rw [if_neg (by omega)]; omega)) ?_)))))
    refine Zq rfl (QW.move (.tmp rfl)) (JL.copyN 0 sl24 ty26 (.tmp rfl) rfl (SrcN.one (.tmp rfl) rfl hy) (Nat.min_eq_left (by omega)) (by rw [hNl, hy]; omega) rfl ?_)
    refine Zn (J.seq (J.region_tailK 8 mixed (by kernel_rfl) (by kernel_rfl) (by kernel_rfl) rfl ?_))
    refine .cons [] rfl rfl rfl (.q rfl (QW.move (.tmp rfl))) ?_
    refine .cons [] rfl rfl rfl (.q rfl (QW.move (.tmp rfl))) ?_
    refine .cons [] rfl rfl rfl (.q rfl (QW.move (.tmp rfl))) ?_
    refine .cons [47, 48] rfl rfl rfl (.q rfl (QW.add (.tmp rfl) (.tmp rfl) (w64n (m := i + 1) rfl (by omega)))) ?_
    refine .cons [46, 49] rfl rfl rfl (.q rfl (QW.cutL (l := i + 1) (off' := i * 5 + 5) sl24 ty26 (.tmp rfl) (.tmp rfl) rfl (by omega) (by omega) (by rw [if_neg (by omega)]; omega))) ?_
    refine .cons [] rfl rfl rfl (.q rfl (QW.move (.tmp rfl))) ?_
    refine .cons [] rfl rfl rfl (.q rfl (QW.move (.tmp rfl))) ?_
    refine .cons [51, 52] rfl rfl rfl (.q rfl (QW.cutL (l := i) (off' := i * 5) sl24 ty26 (.tmp rfl) (.tmp rfl) rfl (by omega) (by omega) (by rw [if_neg (by omega)]; omega))) ?_
    refine .nil ?_
    refine JL.copyN 0 sl24 ty26 (.tmp rfl) rfl (SrcN.boxE (i2 := 1) (mm := xs.length - i) (q := xs.flatten.length - i * 5) (.tmp rfl) rfl (by omega) (Nat.le_refl _) (by rw [hBl]; omega)) (Nat.min_eq_left (by omega)) (by rw [splice_length (by rw [hNl, hy]; omega), hNl, hml]; omega) rfl ?_
    refine Zn (J.seq (J.fold 0 (xs.take i ++ [ys] ++ xs.drop i) rfl (v := sv b2 0 (i + (xs.length + 1 - i)) (cap2 + 1)) (by rw [ins_len hi, show i + (xs.length + 1 - i) = xs.length + 1 by omega]) (by rw [ins_len hi]; omega) (ins_sz hsz hy) (by rw [splice_length (by rw [splice_length (by rw [hNl, hy]; omega), hNl, hml]; omega), splice_length (by rw [hNl, hy]; omega), hNl]; rfl) (by rw [ins_flen hsz hy, ins_flat hsz]; exact ins_grow (X := xs.flatten) (sp := sp.map AV.c) (tl := tl) (a := i * 5) (m := 5) (by omega) hy (by omega)) rfl ?_))
    exact J.region_lit (Zq rfl (QW.move (.tmp rfl)) (Zq rfl (QW.assign (.tmp rfl)) (Zn (J.ret (thenQ.r (Zr [.p, .k] (RetEv.one rfl (REv.tmp rfl lr)) rfl ⟨_, rfl, _, rfl, rfl, rfl⟩))))))
  have hroom : xs.length + 1 ≤ cap + 1 := by simp at c3; omega
  refine Zk (Zs (Zq rfl (QW.move (.tmp rfl)) (Zq rfl (QW.move (.tmp rfl)) (Zq rfl (QW.move (.tmp rfl)) (Zq rfl (QW.add (.tmp rfl) (.tmp rfl) (w64n (m := xs.length + 1) rfl (by omega))) (Zq rfl (QW.cutH (h := xs.length + 1) sl24 ty26 (.tmp rfl) (.tmp rfl) rfl (by omega)) (Zq rfl (QW.assign (.tmp rfl)) (Zn (J.seq ?_)))))))))
  refine Zs (Zq rfl (QW.move (.tmp rfl)) (Zq rfl (QW.move (.tmp rfl)) (Zq rfl (QW.move (.tmp rfl)) (Zq rfl (QW.move (.tmp rfl)) (Zq rfl (QW.add (.tmp rfl) (.tmp rfl) (w64n (m := i + 1) rfl (by omega))) (Zq rfl (QW.cutL (l := i + 1) (off' := i * 5 + 5) sl24 ty26 (.tmp rfl) (.tmp rfl) rfl (by omega) (by omega) (by rw [if_neg (by omega)]; omega)) ?_))))))
  refine Zq rfl (QW.apart 0 sl24 ty26 overVal (.tmp rfl) (.tmp rfl) rfl (by intro h0; simp at h0; subst h0; simp at hy) (by intro h0; have := congrArg List.length h0; rw [hBl] at this; simp at this)) ?_
  refine Zq rfl (QW.not (.tmp rfl)) (Zn ?_)
  refine J.cond (.tmp rfl) (fun c4 => ?_) (fun c4 => absurd c4 (by simp))
  refine J.seq ?_
  have hml : (((xs.flatten ++ sp.map AV.c).drop (i * 5)).take (xs.flatten.length - i * 5)).length = xs.flatten.length - i * 5 := by rw [List.length_take, List.length_drop, hBl]; omega
  refine J.region_tailK 8 mixed (by kernel_rfl) (by kernel_rfl) (by kernel_rfl) rfl ?_
  refine .cons [] rfl rfl rfl (.q rfl (QW.move (.tmp rfl))) ?_
  refine .cons [] rfl rfl rfl (.q rfl (QW.move (.tmp rfl))) ?_
  refine .cons [] rfl rfl rfl (.q rfl (QW.move (.tmp rfl))) ?_
  refine .cons [70, 71] rfl rfl rfl (.q rfl (QW.add (.tmp rfl) (.tmp rfl) (w64n (m := i + 1) rfl (by omega)))) ?_
  refine .cons [69, 72] rfl rfl rfl (.q rfl (QW.cutL (l := i + 1) (off' := i * 5 + 5) sl24 ty26 (.tmp rfl) (.tmp rfl) rfl (by omega) (by omega) (by rw [if_neg (by omega)]; omega))) ?_
  refine .cons [] rfl rfl rfl (.q rfl (QW.move (.tmp rfl))) ?_
  refine .cons [] rfl rfl rfl (.q rfl (QW.move (.tmp rfl))) ?_
  refine .cons [74, 75] rfl rfl rfl (.q rfl (QW.cutL (l := i) (off' := i * 5) sl24 ty26 (.tmp rfl) (.tmp rfl) rfl (by omega) (by omega) (by rw [if_neg (by omega)]; omega))) ?_
  refine .nil ?_
  refine JL.copyN 0 sl24 ty26 (.tmp rfl) rfl (SrcN.boxE (i2 := 0) (mm := xs.length - i) (q := xs.flatten.length - i * 5) (.tmp rfl) rfl (by omega) (by omega) (by rw [hBl]; omega)) (by show min _ _ = _; omega) (by rw [hBl, hml]; omega) rfl ?_
  refine Zn (Zs (Zq rfl (QW.move (.tmp rfl)) (Zq rfl (QW.move (.tmp rfl)) (Zq rfl (QW.cutL (l := i) (off' := i * 5) sl24 ty26 (.tmp rfl) (.tmp rfl) rfl (by omega) (by omega) (by rw [if_neg (by omega)]; omega)) ?_))))
  refine Zq rfl (QW.move (.tmp rfl)) (JL.copyN 0 sl24 ty26 (.tmp rfl) rfl (SrcN.one (.tmp rfl) rfl hy) (Nat.min_eq_left (by omega)) (by rw [splice_length (by rw [hBl, hml]; omega), hBl, hy]; omega) rfl ?_)
  refine Zn (J.seq (J.fold 0 (xs.take i ++ [ys] ++ xs.drop i) rfl (v := sv b 0 (xs.length + 1) (cap + 1)) (by rw [ins_len hi]) (by rw [ins_len hi]; omega) (ins_sz hsz hy) (by rw [splice_length (by rw [splice_length (by rw [hBl, hml]; omega), hBl, hy]; omega), splice_length (by rw [hBl, hml]; omega), hBl]; rfl) (by rw [ins_flen hsz hy, ins_flat hsz]; exact ins_shift (X := xs.flatten) (sp := sp.map AV.c) (a := i * 5) (m := 5) (by omega) hy (by rw [hBl]; omega)) rfl ?_))
  exact J.region_lit (Zq rfl (QW.move (.tmp rfl)) (Zq rfl (QW.assign (.tmp rfl)) (Zn (J.ret (thenQ.r (Zr [.p] (RetEv.one rfl (REv.tmp rfl lr)) rfl ⟨_, rfl, _, rfl, rfl, rfl⟩))))))
end Go.Proofs.YtmccnmahegbmpaaGreat.J

/- Walks: a new item in an owned value. -/
namespace Go.Proofs.YtmccnmahegbmpaaGreat.J
open Go Go.RowKit
set_option maxRecDepth 10000
set_option maxHeartbeats 4000000
theorem fnd_cases {v : V} {s : StT} {i : Nat} {e : Int} (h : v.fnd s = (i, e)) : e = 0 ∨ (e = 71 ∧ s.isKey = true ∧ v.kind = 5 ∧ i ≤ v.keys.length) ∨ (e = 82 ∧ s.isKey = false ∧ v.kind = 4 ∧ i = 0) ∨ (e = 81 ∧ i = 0) := by
  unfold V.fnd at h
  split at h
  · rename_i h1
    split at h
    · rename_i h2
      split at h
      · exact .inl (congrArg Prod.snd h).symm
      · cases h; exact .inr (.inl ⟨rfl, h1, h2, low_le _ _⟩)
    · cases h; exact .inr (.inr (.inr ⟨rfl, rfl⟩))
  · rename_i h1
    split at h
    · rename_i h2
      split at h
      · cases h; exact .inr (.inr (.inl ⟨rfl, by simpa using h1, h2, rfl⟩))
      · exact .inl (congrArg Prod.snd h).symm
    · cases h; exact .inr (.inr (.inr ⟨rfl, rfl⟩))
def V.stp (u : V) (s : StT) (last : Bool) : V × Nat × Int :=
  if (u.fnd s).2 = 0 then (u, (u.fnd s).1, 0) else if last = true then (if (u.grw s (u.fnd s).1 (u.fnd s).2).2 = 0 then (u.ins s (u.grw s (u.fnd s).1 (u.fnd s).2).1 .nil, (u.grw s (u.fnd s).1 (u.fnd s).2).1, 0) else (u, (u.grw s (u.fnd s).1 (u.fnd s).2).1, (u.grw s (u.fnd s).1 (u.fnd s).2).2))
  else (u, (u.fnd s).1, (u.fnd s).2)
def GrowR (z : At) (s : StT) : AV → List Own → Prop := fun x o => ∃ kv iv ok oi, x = .tup [.c (.int .i64 ((z.u.stp s true).2.1 : Int)), .c (.int .i64 (z.u.stp s true).2.2)] ∧ o = [.box z.b (holeC z (z.u.stp s true).1 kv iv), ok, oi] ∧ VTr (z.u.stp s true).1 kv iv ok oi
theorem GrowR.no {z : At} {s : StT} {i m : Nat} {e f : Int} {ok oi : Own} {o : List Own} (h : z.u.fnd s = (i, e)) (he : e ≠ 0) (hg : z.u.grw s i e = (m, f)) (hf : f ≠ 0) (ho : o = [.box z.b (holeC z z.u z.kv z.iv), ok, oi]) (hV : VTr z.u z.kv z.iv ok oi) : GrowR z s (.tup [.c (.int .i64 (m : Int)), .c (.int .i64 f)]) o := by
  have : z.u.stp s true = (z.u, m, f) := by simp [V.stp, h, he, hg, hf]
  exact ⟨z.kv, z.iv, ok, oi, by rw [this], by rw [this]; exact ho, by rw [this]; exact hV⟩
theorem GrowR.yes {z : At} {s : StT} {i m : Nat} {e : Int} {kv iv : Value} {ok oi : Own} {o : List Own} (h : z.u.fnd s = (i, e)) (he : e ≠ 0) (hg : z.u.grw s i e = (m, 0)) (ho : o = [.box z.b (holeC z z.u kv iv), ok, oi]) (hV : VTr (z.u.ins s m .nil) kv iv ok oi) : GrowR z s (.tup [.c (.int .i64 (m : Int)), .c (.int .i64 0)]) o := by
  have : z.u.stp s true = (z.u.ins s m .nil, m, 0) := by simp [V.stp, h, he, hg]
  exact ⟨kv, iv, ok, oi, by rw [this], by rw [this]; exact ho, by rw [this]; exact hV⟩
theorem hole_setK {z : At} {u : V} {kv kv2 iv : Value} (h : z.pre.length = z.off) : splice (holeC z u kv iv) (z.off + 3) [.c kv2] = holeC z u kv2 iv := (hole_set h (by decide)).trans (by rw [holeC_eq]; rfl)
theorem hole_setI {z : At} {u : V} {kv iv iv2 : Value} (h : z.pre.length = z.off) : splice (holeC z u kv iv) (z.off + 4) [.c iv2] = holeC z u kv iv2 := (hole_set h (by decide)).trans (by rw [holeC_eq]; rfl)
theorem strs_trL : ∀ {ks : List Str} {us : List Value} {o : Own}, TrL (keysAV ks).flatten us o → us = ks.map str
  | [], us, o, h => by cases h; rfl
  | s :: ks, us, o, h => by
    simp only [keysAV, List.map_cons, List.flatten_cons, List.singleton_append] at h
    cases h with
    | cons h1 h2 ho => rw [h1.c_inv, strs_trL h2]; rfl
theorem one_cells : ∀ {cs : List (List AV)} {ks : List Str}, (∀ x ∈ cs, x.length = 1) → cs.flatten = (ks.map str).map AV.c → cs = keysAV ks
  | [], [], _, _ => rfl
  | [], _ :: _, _, h => by simp at h
  | c :: cs, ks, h1, h => by
    obtain ⟨x, rfl⟩ := List.length_eq_one_iff.1 (h1 c (by simp))
    cases ks with
    | nil => simp at h
    | cons k ks =>
      simp only [List.flatten_cons, List.singleton_append, List.map_cons, List.cons.injEq] at h
      rw [one_cells (fun x hx => h1 x (by simp [hx])) h.2, h.1]
      rfl
theorem keys_cs {cs : List (List AV)} {ks : List Str} {us : List Value} {o : Own} (h1 : cs.flatten = us.map AV.c) (h3 : ∀ x ∈ cs, x.length = 1) (h : TrL (keysAV ks).flatten us o) : cs = keysAV ks := by
  rw [strs_trL h] at h1
  exact one_cells h3 h1
def nilC : List AV := [.c (.int .i64 0), .c (.int .u64 0), .c (str []), .c (.slice none 0 0), .c (.slice none 0 0)]
theorem OwnEq.noArr (e : ETy) : OwnEq (.grp [.arr (.slice none 0 0) e [], .grp []]) (.grp []) := ⟨fun b => by simp [Own.fp, Own.fpl, arrFp], fun w A => by
  simp only [ok_grp, List.forall_mem_cons, List.not_mem_nil, false_implies, implies_true, and_true, iff_true]
  exact .inl ⟨_, rfl, rfl⟩⟩
theorem nil_slTr (e : ETy) : Tr (.sl true false e []) (.slice none 0 0) (.grp []) := .sl (us := []) (o := .grp []) rfl rfl (fun _ h => by cases h) (fun _ h => by cases h) rfl (by simp) (.nil (.refl _)) (OwnEq.noArr e)
theorem nil_VTr : VTr .nil (.slice none 0 0) (.slice none 0 0) (.grp []) (.grp []) := ⟨rfl, rfl, nil_slTr eStr, nil_slTr eV⟩
theorem ins_tr {is : List V} {cs : List (List AV)} {us : List Value} {o : Own} {m : Nat} {v : Value} (hm : m ≤ is.length) (hl : cs.length = is.length) (h3 : ∀ x ∈ cs, x.length = 5) (hf : cs.flatten = us.map AV.c) (h1 : us.all (·.oneCell') = true) (h : TrL (V.css true is).flatten us o) (h6 : (is.length + 1) * 80 ≤ reach) :
    Tr (.sl true false eV (V.css true (is.take m ++ [V.nil] ++ is.drop m))) v (.grp [.arr v eV (cs.take m ++ [nilC] ++ cs.drop m), o]) := by
  have hsp : (V.css true is).flatten = (V.css true (is.take m)).flatten ++ (V.css true (is.drop m)).flatten := by
    rw [← List.flatten_append, ← V.css_append, List.take_append_drop]
  rw [hsp] at h
  obtain ⟨u1, u2, o1, o2, rfl, g1, g2, g3⟩ := h.split
  rw [List.all_append, Bool.and_eq_true] at h1
  have hlen : (cs.take m).flatten.length = u1.length := by
    rw [← g1.length, flatten_length (sz := 5) _ (fun x hx => h3 x (List.mem_of_mem_take hx)), flatten_length (sz := 5) _ (V.css_sz true _), V.css_length, List.length_take, List.length_take, hl]
  have hf2 : (cs.take m).flatten ++ (cs.drop m).flatten = u1.map AV.c ++ u2.map AV.c := by
    rw [← List.flatten_append, List.take_append_drop, hf, List.map_append]
  obtain ⟨k1, k2⟩ := List.append_inj hf2 (by simpa using hlen)
  have htl : TrL (V.css true (is.take m ++ [V.nil] ++ is.drop m)).flatten (u1 ++ V.vals .nil (.slice none 0 0) (.slice none 0 0) ++ u2) o := by
    rw [V.css_append, V.css_append, List.flatten_append, List.flatten_append]
    have hn : (V.css true [V.nil]).flatten = V.nil.cs true := by simp [V.css]
    rw [hn]
    refine (g1.append nil_VTr.trL (o'' := o1) ?_).append g2 g3
    refine (OwnEq.grp_perm (List.Perm.swap _ _ _)).trans (OwnEq.trans (.cons ?_ (.refl _)) (OwnEq.drops _))
    exact (OwnEq.nest [] [.grp []]).trans (OwnEq.one _)
  refine items_tr (us := u1 ++ V.vals .nil (.slice none 0 0) (.slice none 0 0) ++ u2) ?_ ?_ ?_ ?_ ?_ htl
  · rw [List.flatten_append, List.flatten_append, k1, k2, List.map_append, List.map_append]
    rfl
  · simp only [List.length_append, List.length_take, List.length_drop, List.length_singleton]; omega
  · intro x hx
    simp only [List.mem_append, List.mem_singleton] at hx
    rcases hx with (hx | rfl) | hx
    · exact h3 x (List.mem_of_mem_take hx)
    · rfl
    · exact h3 x (List.mem_of_mem_drop hx)
  · rw [List.all_append, List.all_append, h1.1, h1.2, nil_VTr.ones]; rfl
  · simp only [List.length_append, List.length_take, List.length_drop, List.length_singleton]; unfold reach at h6 ⊢; omega
theorem keysAV_ins (ks : List Str) (s : Str) (m : Nat) : (keysAV ks).take m ++ [[.c (str s)]] ++ (keysAV ks).drop m = keysAV (ks.take m ++ [s] ++ ks.drop m) := by simp [keysAV, List.map_take, List.map_drop]
theorem grow_ok {z : At} {s : StT} {zs : List AV} {i : Nat} {e : Int} (hs : Sc s zs) (ho : z.pre.length = z.off) (hV : VTr z.u z.kv z.iv z.ok z.oi) (hp : partOk z.u = true) (hw : z.u.wf) (hsw : s.wf) (hie : z.u.fnd s = (i, e)) (he0 : e ≠ 0) : AC Tryz.prog 77 [.box z.b (holeC z z.u z.kv z.iv), z.ok, z.oi] [.c (.pointer (some ⟨z.b, z.off, none⟩)), .agg zs, .c (.int .i64 (i : Int)), .c (.int .i64 e)] (RetR (GrowR z s)) := by
  subst hs
  obtain ⟨l1, l2⟩ := partOk_len hp
  have hcs := (fnd_cases hie).resolve_left he0
  obtain ⟨ck, uk, o1, p1, p2, p3, p4, p5, p6⟩ := hV.ks.inv
  obtain ⟨ci, ui, o2, q1, q2, q3, q4, q5, q6⟩ := hV.is.inv
  obtain rfl := keys_cs p1 p3 p5
  rw [V.css_length] at q2
  have hkr : z.u.keys.length * 16 ≤ reach := by unfold reach; omega
  have hir : z.u.items.length * 80 ≤ reach := by unfold reach; omega
  have hV2 : VTr z.u z.kv z.iv (.arr z.kv eStr (keysAV z.u.keys)) (.grp [.arr z.iv eV ci, o2]) := ⟨hV.k1, hV.i1, keys_tr hkr, items_tr q1 q2 q3 q4 hir q5⟩
  refine AC.of_J Tryz.func77 rfl Tryz.ntmps77 rfl fun w0 A0 => ?_
  refine J.seq (J.reown (Reown.cons (Reown.spoil p6 q6)) (J.region_lit (JL.box_agg (.tmp rfl) rfl fun b5 => Zq rfl (QW.assign .const) (Zq rfl (QW.assign .const) (Zn (J.cutK (ι := Nat) [0, 5] (fun m => [(2, .c (.int .i64 (m : Int)))]) (fun m oo => oo) (fun m => z.u.grw s i e = (if 32 ≤ z.u.items.length then (0, 3) else (m, 0)) ∧ m ≤ z.u.items.length ∧ (s.isKey = true → m ≤ z.u.keys.length)) ?_ ?_))))))
  · skip
    refine J.block (Zs (Zq rfl (QW.move (.tmp rfl)) (Zq rfl (QW.eql (.tmp rfl) .const) (Zq rfl (QW.move (.tmp rfl)) (Zg rfl (fun hg => (QW.field_ptr fo66_1 (.tmp rfl) rfl)) (Zg rfl (fun hg => (QW.load_box1 0 ty9 (.when rfl hg) rfl rfl)) (Zg rfl (fun hg => (QW.call gofn83 (.cons (.when rfl hg) .nil) (key_ok _))) (Zg rfl (fun hg => (QW.not (.when rfl hg))) (Zq rfl (QW.pick_and (.tmp rfl) (.tmp rfl)) ?_)))))))))
    refine Zq rfl (QW.assign (.tmp rfl)) (Zn ?_)
    refine J.cond (.tmp rfl) (fun c1 => ?_) (fun c1 => ?_)
    · skip
      have ht1 : e = 71 ∧ keyOk s.key = false := by simpa using c1
      exact J.seq (J.reown (Reown.cons (Reown.cons (Reown.cons (Reown.grp2 _ _ _)))) (J.region_lit (Zq rfl (QW.assign .const) (Zq rfl (QW.assign .const) (Zn (J.ret (blkQ.r (thenQ.r (Zr [.k, .p, .p, .p] (RetEv.two rfl (REv.tmp rfl lr) (REv.tmp rfl lr)) rfl ⟨_, rfl, GrowR.no (m := 0) (f := 31) hie he0 (by unfold V.grw; rw [if_pos ht1]) (by decide) rfl hV2⟩)))))))))
    have hf1 : ¬ (e = 71 ∧ keyOk s.key = false) := by intro hh; simp [hh.1, hh.2] at c1
    refine J.seq (J.region_tailK 10 mixed (by kernel_rfl) (by kernel_rfl) (by kernel_rfl) rfl ?_)
    refine .cons [] rfl rfl rfl (.q rfl (QW.move (.tmp rfl))) ?_
    refine .cons [20] rfl rfl rfl (.q rfl (QW.eql (.tmp rfl) .const)) ?_
    refine .cons [21] rfl rfl rfl (.q rfl (QW.move (.tmp rfl))) ?_
    refine .cons [22] rfl rfl rfl (.g rfl rfl rfl (fun hg => (QW.field_ptr fo66_2 (.tmp rfl) rfl))) ?_
    refine .cons [23, 22] rfl rfl rfl (.g rfl rfl rfl (fun hg => (QW.load_box1 0 ty3 (.when rfl hg) rfl rfl))) ?_
    refine .cons [22] rfl rfl rfl (.g rfl rfl rfl (fun hg => (QW.move (.tmp rfl)))) ?_
    refine .cons [25, 22] rfl rfl rfl (.g rfl rfl rfl (fun hg => (QW.nil_ptr (.when rfl hg)))) ?_
    refine .cons [26, 22] rfl rfl rfl (.g rfl rfl rfl (fun hg => (QW.field_ptr fo26_4 (.when rfl hg) rfl))) ?_
    refine .cons [27, 22] rfl rfl rfl (.g rfl rfl rfl (fun hg => (QW.load_box1 1 ty24 (.when rfl hg) rfl ((hole_at ho 4 (by decide)).trans rfl)))) ?_
    refine .cons [28, 22] rfl rfl rfl (.g rfl rfl rfl (fun hg => (QW.len_arr 3 sl24 (.when rfl hg) rfl))) ?_
    refine .nil ?_
    refine Zg rfl (fun hg => (QW.eql (.when rfl hg) (.when rfl hg))) (Zq rfl (QW.pick_and (.tmp rfl) (.tmp rfl)) (Zq rfl (QW.assign (.tmp rfl)) (Zn ?_)))
    refine J.cond (.tmp rfl) (fun c2 => ?_) (fun c2 => ?_)
    · skip
      have ht2 : e = 82 ∧ s.index = (z.u.items.length : Int) := by simpa [q2] using c2
      refine J.region_lit (Zq rfl (QW.field_ptr fo66_2 (.tmp rfl) rfl) (Zq rfl (QW.load_box1 0 ty3 (.tmp rfl) rfl rfl) (Zq rfl (QW.assign (.tmp rfl)) (JL.nil (blkQ.n (thenQ.n ?_))))))
      exact ⟨z.u.items.length, ⟨by unfold V.grw; rw [if_neg hf1, if_pos ht2], Nat.le_refl _, fun hk => absurd hk (by rcases hcs with h | h | h; (exact absurd (h.1.symm.trans ht2.1) (by decide)); (rw [h.2.1]; decide); (exact absurd (h.1.symm.trans ht2.1) (by decide)))⟩, Wk.re (.cons rfl (Le.intE ht2.2) (.cons rfl lr (.cons rfl lr .nil))) (Reown.refl _) (fun _ h => by first | exact h | simp [h])⟩
    have hf2 : ¬ (e = 82 ∧ s.index = (z.u.items.length : Int)) := by intro hh; simp [hh.1, hh.2, q2] at c2
    refine Zs (Zq rfl (QW.move (.tmp rfl)) (Zq rfl (QW.neq (.tmp rfl) .const) (Zq rfl (QW.assign (.tmp rfl)) (Zn ?_))))
    refine J.cond (.tmp rfl) (fun c3 => ?_) (fun c3 => ?_)
    · skip
      have ht3 : e ≠ 71 := by simpa using c3
      exact J.seq (J.reown (Reown.cons (Reown.cons (Reown.cons (Reown.grp2 _ _ _)))) (J.region_lit (Zq rfl (QW.move (.tmp rfl)) (Zq rfl (QW.assign .const) (Zq rfl (QW.assign (.tmp rfl)) (Zn (J.ret (blkQ.r (thenQ.r (Zr [.k, .p, .p, .p] (RetEv.two rfl (REv.tmp rfl lr) (REv.tmp rfl lr)) rfl ⟨_, rfl, GrowR.no (m := 0) (f := e) hie he0 (by unfold V.grw; rw [if_neg hf1, if_neg hf2, if_pos ht3]) (by assumption) rfl hV2⟩))))))))))
    have h71 : e = 71 := by simpa using c3
    have h5 : s.isKey = true ∧ z.u.kind = 5 ∧ i ≤ z.u.keys.length := by
      rcases hcs with h | h | h
      · exact h.2
      · exact absurd (h.1.symm.trans h71) (by decide)
      · exact absurd (h.1.symm.trans h71) (by decide)
    have hkl := (partOk_rec hp h5.2.1).1
    refine J.skip (blkQ.n (thenQ.n ?_))
    exact ⟨i, ⟨by unfold V.grw; rw [if_neg hf1, if_neg hf2, if_neg (by simp [h71])], by omega, fun _ => h5.2.2⟩, Wk.re (.cons rfl lr (.cons rfl lr (.cons rfl lr .nil))) (Reown.refl _) (fun _ h => by first | exact h | simp [h])⟩
  · intro m ⟨hgm, hmi, hmk⟩
    refine J.conv (by (try simp only [nl, stepsO, valO, nthO, curO, mrg, AV.cellsOf, splice_zero, splice_succ, Nat.reduceAdd]); rfl) ?_
    refine J.seq (Zs (Zq rfl (QW.move (.tmp rfl)) (Zq rfl (QW.nil_ptr (.tmp rfl)) (Zq rfl (QW.field_ptr fo26_4 (.tmp rfl) rfl) (Zq rfl (QW.load_box1 1 ty24 (.tmp rfl) rfl ((hole_at ho 4 (by decide)).trans rfl)) ?_)))))
    refine Zq rfl (QW.len_arr 3 sl24 (.tmp rfl) rfl) (Zq rfl (QW.geq (.tmp rfl) .const) (Zn ?_))
    refine J.cond (.tmp rfl) (fun c1 => ?_) (fun c1 => ?_)
    · skip
      have h32 : 32 ≤ z.u.items.length := by (simp [q2] at c1; omega)
      exact J.seq (J.reown (Reown.cons (Reown.cons (Reown.cons (Reown.grp2 _ _ _)))) (J.region_lit (Zq rfl (QW.assign .const) (Zq rfl (QW.assign .const) (Zn (J.ret (thenQ.r (Zr [.k, .p, .p, .p] (RetEv.two rfl (REv.tmp rfl lr) (REv.tmp rfl lr)) rfl ⟨_, rfl, GrowR.no (m := 0) (f := 3) hie he0 (by rw [hgm, if_pos h32]) (by decide) rfl hV2⟩))))))))
    have h32 : ¬ 32 ≤ z.u.items.length := by (simp [q2] at c1; omega)
    refine Zk (J.cutK (ι := Value × List Str) [0, 2] (fun ⟨kv2, ks2⟩ => []) (fun ⟨kv2, ks2⟩ oo => List.set (List.set oo 1 (.box z.b (holeC z z.u kv2 z.iv))) 2 (.arr kv2 eStr (keysAV ks2))) (fun ⟨kv2, ks2⟩ => kv2.oneCell' = true ∧ ks2 = (if s.isKey = true then z.u.keys.take m ++ [s.key] ++ z.u.keys.drop m else z.u.keys)) ?_ ?_)
    · skip
      refine Zs (Zq rfl (QW.field_ptr fo66_0 (.tmp rfl) rfl) (Zq rfl (QW.load_box1 0 ty4 (.tmp rfl) rfl rfl) (Zn ?_)))
      refine J.cond (.tmp rfl) (fun c2 => ?_) (fun c2 => ?_)
      · skip
        have hK : s.isKey = true := c2
        refine J.region_outK 10 1 (fun os_ ow_ x_ o_ => match os_ with | [] => (∃ o2_, (CloneR eStr ((keysAV z.u.keys).take m ++ [[.c (str s.key)]] ++ (keysAV z.u.keys).drop m)) x_ o2_ ∧ o_ = mrg [.k, .k, .p] o2_ ow_) | _ => False) mixed (by kernel_rfl) (by kernel_rfl) (by kernel_rfl) rfl ?_
        refine OutK.quiet [] rfl rfl rfl (fun qs_ qv_ ql_ => (.q rfl (QW.move (.tmp rfl)))) ?_
        refine OutK.quiet [] rfl rfl rfl (fun qs_ qv_ ql_ => (.q rfl (QW.move (.tmp rfl)))) ?_
        refine OutK.quiet [47] rfl rfl rfl (fun qs_ qv_ ql_ => (.q rfl (QW.nil_ptr (.tmp rfl)))) ?_
        refine OutK.quiet [48] rfl rfl rfl (fun qs_ qv_ ql_ => (.q rfl (QW.field_ptr fo26_3 (.tmp rfl) rfl))) ?_
        refine OutK.quiet [49] rfl rfl rfl (fun qs_ qv_ ql_ => by
            rcases qs_ with _ | ⟨⟨y0, p0⟩, qs_⟩
            · skip
              exact (.q rfl (QW.load_box1 1 ty23 (.tmp rfl) rfl ((hole_at ho 3 (by decide)).trans rfl)))
            rcases qs_ with _ | ⟨⟨y1, p1⟩, qs_⟩
            · skip
              obtain ⟨hr0, _⟩ := qv_
              obtain ⟨o55, ⟨v55, rfl, hs55, rfl⟩, rfl⟩ := hr0
              exact (.q rfl (QW.load_box1 1 ty23 (.tmp rfl) rfl ((hole_at ho 3 (by decide)).trans rfl)))
            exact absurd ql_ (by simp)) ?_
        refine OutK.quiet [] rfl rfl rfl (fun qs_ qv_ ql_ => (.q rfl (QW.move (.tmp rfl)))) ?_
        refine OutK.quiet [] rfl rfl rfl (fun qs_ qv_ ql_ => (.q rfl (QW.field_ptr fo66_1 (.tmp rfl) rfl))) ?_
        refine OutK.quiet [52] rfl rfl rfl (fun qs_ qv_ ql_ => by
            rcases qs_ with _ | ⟨⟨y0, p0⟩, qs_⟩
            · skip
              exact (.q rfl (QW.load_box1 0 ty9 (.tmp rfl) rfl rfl))
            rcases qs_ with _ | ⟨⟨y1, p1⟩, qs_⟩
            · skip
              obtain ⟨hr0, _⟩ := qv_
              obtain ⟨o55, ⟨v55, rfl, hs55, rfl⟩, rfl⟩ := hr0
              exact (.q rfl (QW.load_box1 0 ty9 (.tmp rfl) rfl rfl))
            exact absurd ql_ (by simp)) ?_
        refine OutK.quiet [53] rfl rfl rfl (fun qs_ qv_ ql_ => (.q rfl (QW.buildSlice (idx := [0]) (xs := [[.c (str s.key)]]) sl23 el9 z9 rfl (.cons (.tmp rfl) .nil) rfl rfl rfl rfl rfl rfl rfl rfl rfl))) ?_
        refine OutK.loud [50, 51, 54] rfl rfl rfl rfl rfl (fun qs_ qv_ ql_ => by
            obtain rfl : qs_ = [] := List.length_eq_zero_iff.1 ql_
            exact LStepR.callRF (d := 55) [.k, .k, .p] gofn88 Lent.nil (fun _ => (.cons (.tmp rfl) (.cons (.tmp rfl) (.cons (.tmp rfl) .nil)))) (insStr_ok (xs := keysAV z.u.keys) (i := m) (by rw [keysAV_length]; exact hmk hK) rfl (by rw [keysAV_length]; unfold reach; omega)) (.inl rfl)) ?_
        refine .nil fun qs_ qv_ ql_ => ?_
        obtain ⟨⟨y0, p0⟩, qs_, rfl⟩ : ∃ p t, qs_ = p :: t := by (cases qs_ with | nil => simp at ql_ | cons p t => exact ⟨p, t, rfl⟩)
        obtain rfl : qs_ = [] := List.length_eq_zero_iff.1 (by simpa using ql_)
        obtain ⟨hr0, _⟩ := qv_
        obtain ⟨o55, ⟨v55, rfl, hs55, rfl⟩, rfl⟩ := hr0
        refine JL.conv (by (try simp only [nl, stepsO, valO, nthO, curO, mrg, AV.cellsOf, splice_zero, splice_succ, Nat.reduceAdd]); rfl) ?_
        refine Zq rfl (QW.nil_ptr (.tmp rfl)) (Zq rfl (QW.field_ptr fo26_3 (.tmp rfl) rfl) (JL.store_box 1 ty23 (.tmp rfl) rfl (.tmp rfl) (by assumption) rfl (by rw [hole_len _ _ _ _ ho]; exact Nat.ble_eq_true_of_le (by omega)) (hole_setK ho) rfl ?_))
        refine Zn ?_
        exact ⟨⟨v55, z.u.keys.take m ++ [s.key] ++ z.u.keys.drop m⟩, ⟨hs55, by rw [if_pos hK]⟩, Wk.re (.cons rfl lr (.cons rfl lr .nil)) (Reown.ofEq (by show [_, Own.box z.b _, Own.arr v55 eStr _, _, _] = _; rw [keysAV_ins]; rfl)) (fun _ h => by first | exact h | simp [h])⟩
      have hK : s.isKey = false := c2
      refine Zk ?_
      exact ⟨⟨z.kv, z.u.keys⟩, ⟨hV.k1, by rw [if_neg (by simp [hK])]⟩, Wk.re (.cons rfl lr (.cons rfl lr .nil)) (Reown.refl _) (fun _ h => by first | exact h | simp [h])⟩
    · intro ⟨kv2, ks2⟩ ⟨hk2, hks2⟩
      refine J.conv (by (try simp only [nl, stepsO, valO, nthO, curO, mrg, AV.cellsOf, splice_zero, splice_succ, Nat.reduceAdd]); rfl) ?_
      refine Zs (Zq rfl (QW.move (.tmp rfl)) (Zq rfl (QW.move (.tmp rfl)) (Zq rfl (QW.nil_ptr (.tmp rfl)) (Zq rfl (QW.field_ptr fo26_4 (.tmp rfl) rfl) (Zq rfl (QW.load_box1 1 ty24 (.tmp rfl) rfl ((hole_at ho 4 (by decide)).trans rfl)) ?_)))))
      refine Zq rfl (QW.move (.tmp rfl)) (Zq rfl (QW.build (idx := []) pl26 z26 rfl .nil rfl rfl rfl rfl) (Zq rfl (QW.buildSlice (idx := [0]) (xs := [nilC]) sl24 el26 z26 rfl (.cons (.tmp rfl) .nil) rfl rfl rfl rfl rfl rfl rfl rfl rfl) (JL.callRF [.k, .k, .k, .p] gofn89 rfl Lent.nil (fun _ => (.cons (.tmp rfl) (.cons (.tmp rfl) (.cons (.tmp rfl) .nil)))) (insVal_ok (xs := ci) (i := m) (by omega) rfl (by unfold reach; omega)) (.inl rfl) fun x66 o66 h66 => ?_)))
      obtain ⟨v66, rfl, hs66, rfl⟩ := h66
      refine Zq rfl (QW.nil_ptr (.tmp rfl)) (Zq rfl (QW.field_ptr fo26_4 (.tmp rfl) rfl) (JL.store_box 1 ty24 (.tmp rfl) rfl (.tmp rfl) (by assumption) rfl (by rw [hole_len _ _ _ _ ho]; exact Nat.ble_eq_true_of_le (by omega)) (hole_setI ho) rfl ?_))
      exact Zn (J.seq (J.reown (Reown.cons (Reown.cons (Reown.cons (Reown.grp2 _ _ _)))) (J.region_lit (Zq rfl (QW.move (.tmp rfl)) (Zq rfl (QW.assign (.tmp rfl)) (Zq rfl (QW.assign .const) (Zn (J.ret (Zr [.k, .p, .p, .p] (RetEv.two rfl (REv.tmp rfl lr) (REv.tmp rfl lr)) rfl ⟨_, rfl, GrowR.yes (m := m) hie he0 (by rw [hgm, if_neg h32]) rfl ⟨hk2, hs66, by (rw [show (z.u.ins s m .nil).keys = ks2 from hks2.symm]; exact keys_tr (by rw [hks2]; split <;> ((try simp only [List.length_append, List.length_take, List.length_drop, List.length_singleton]); unfold reach; omega))), ins_tr hmi q2 q3 q1 q4 q5 (by unfold reach; omega)⟩⟩)))))))))
end Go.Proofs.YtmccnmahegbmpaaGreat.J

/- Walks: a part of a value is another one. -/
namespace Go.Proofs.YtmccnmahegbmpaaGreat.J
open Go Go.RowKit
set_option maxRecDepth 10000
set_option maxHeartbeats 4000000
theorem V.nil_fine : V.nil.Fine := .mk rfl fun _ h => by cases h
theorem V.ins_get {u : V} {s : StT} {m : Nat} (hm : m ≤ u.items.length) : ∃ h : m < (u.ins s m .nil).items.length, (u.ins s m .nil).items[m] = .nil := by
  have hl : m < (u.items.take m ++ [V.nil] ++ u.items.drop m).length := by simp; omega
  refine ⟨hl, ?_⟩
  show (u.items.take m ++ [V.nil] ++ u.items.drop m)[m]'hl = .nil
  simp [List.getElem_append, Nat.min_eq_left hm]
theorem V.ins_set {u x : V} {s : StT} {m : Nat} (hm : m ≤ u.items.length) : (u.ins s m .nil).setAt m x = u.ins s m x := by
  obtain ⟨k, b, t, ks, is⟩ := u
  simp only [V.items] at hm
  simp only [V.setAt, V.ins, V.kind, V.bits, V.text, V.keys, V.items]
  congr 1
  rw [List.append_assoc, List.set_append_right _ _ (by simp; omega)]
  simp [Nat.min_eq_left hm]
theorem V.grw_le {u : V} {s : StT} {i m : Nat} {e : Int} (hp : partOk u = true) (h : u.fnd s = (i, e)) (he : e ≠ 0) (hg : u.grw s i e = (m, 0)) : m ≤ u.items.length := by
  unfold V.grw at hg
  split at hg
  · cases hg
  · split at hg
    · split at hg
      · cases hg
      · cases hg; exact Nat.le_refl _
    · split at hg
      · rename_i h1 h2 h3
        cases hg; exact absurd rfl he
      · rename_i h3
        split at hg
        · cases hg
        · cases hg
          have h71 : e = 71 := Decidable.byContradiction h3
          rcases fnd_cases h with h | h | h | h
          · exact absurd h he
          · have := (partOk_rec hp h.2.2.1).1; omega
          · omega
          · omega
theorem V.stp_no {u u2 x : V} {s : StT} {r : List StT} {i2 : Nat} {e2 : Int} (h : u.stp s (decide (r = [])) = (u2, i2, e2)) (he : e2 ≠ 0) : u.set (s :: r) x = (.nil, e2) := by
  unfold V.stp at h
  split at h
  · cases h; exact absurd rfl he
  · rename_i h0
    split at h
    · rename_i hr
      have hr : r = [] := by simpa using hr
      subst hr
      split at h
      · cases h; exact absurd rfl he
      · rename_i hg
        cases h
        show u.put s x = _
        rw [V.put, if_neg h0, if_neg hg]
    · rename_i hr
      cases h
      cases r with
      | nil => simp at hr
      | cons t r => rw [V.set, if_pos h0]
theorem V.stp_yes {u u2 x : V} {s : StT} {r : List StT} {i2 : Nat} (hf : u.Fine) (hw : u.wf) (hs : s.wf) (h : u.stp s (decide (r = [])) = (u2, i2, 0)) :
    ∃ hlt : i2 < u2.items.length, u2.wf ∧ u2.items[i2].Fine ∧ u.set (s :: r) x = if (u2.items[i2].set r x).2 ≠ 0 then (.nil, (u2.items[i2].set r x).2) else (u2.setAt i2 (u2.items[i2].set r x).1, 0) := by
  unfold V.stp at h
  split at h
  · rename_i h0
    cases h
    have hlt := V.fnd_lt hf.part h0
    refine ⟨hlt, hw, hf.kid (List.getElem_mem hlt), ?_⟩
    cases r with
    | nil => show u.put s x = _; rw [V.put, if_pos h0]; rfl
    | cons t r => rw [V.set, if_neg (by simp [h0]), V.kid_eq hlt]
  · rename_i h0
    split at h
    · rename_i hr
      have hr : r = [] := by simpa using hr
      subst hr
      split at h
      · rename_i hg
        cases h
        have hm := V.grw_le (m := (u.grw s (u.fnd s).1 (u.fnd s).2).1) hf.part (i := (u.fnd s).1) (e := (u.fnd s).2) rfl h0 (Prod.ext rfl hg)
        obtain ⟨hlt, hnil⟩ := V.ins_get (s := s) hm
        refine ⟨hlt, V.ins_wf hw hf.part hs V.wf_nil, by rw [hnil]; exact V.nil_fine, ?_⟩
        show u.put s x = if (V.set _ [] x).2 ≠ 0 then _ else (V.setAt _ _ x, 0)
        rw [V.put, if_neg h0, if_pos hg, V.ins_set hm]
        rfl
      · rename_i hg
        have := congrArg (·.2.2) h
        exact absurd this hg
    · have := congrArg (·.2.2) h
      exact absurd this h0
def plugR (f : V → V) (w : V × Int) : V × Int := if w.2 ≠ 0 then (.nil, w.2) else (f w.1, 0)
theorem plugR_id (w : V × Int) (h : w.2 ≠ 0 → w.1 = .nil) : plugR id w = w := by
  unfold plugR
  split
  · rename_i h0; rw [← h h0]
  · rename_i h0
    have : w.2 = 0 := Decidable.byContradiction h0
    exact Prod.ext rfl this.symm
theorem V.set_nil : ∀ {p : List StT} {v x : V}, (v.set p x).2 ≠ 0 → (v.set p x).1 = .nil
  | [], v, x, h => absurd rfl h
  | [s], v, x, h => by
    change (v.put s x).2 ≠ 0 at h
    show (v.put s x).1 = .nil
    unfold V.put at h ⊢
    split
    · rename_i h0; rw [if_pos h0] at h; exact absurd rfl h
    · rename_i h0
      rw [if_neg h0] at h
      split
      · rename_i h1; rw [if_pos h1] at h; exact absurd rfl h
      · rfl
  | s :: t :: r, v, x, h => by
    unfold V.set at h ⊢
    split
    · rfl
    · rename_i h0
      rw [if_neg h0] at h
      split
      · rfl
      · rename_i h1; rw [if_neg h1] at h; exact absurd rfl h
theorem plugR_if (f : V → V) (u : V) (i : Nat) (w : V × Int) : plugR f (if w.2 ≠ 0 then (.nil, w.2) else (u.setAt i w.1, 0)) = plugR (fun z => f (u.setAt i z)) w := by
  unfold plugR
  by_cases h : w.2 = 0
  · simp [h]
  · simp [h]
theorem setv_err {v x w : V} {p : List StT} {e : Int} (hv : v.err = 0) (hx : x.err = 0) (h : v.set p x = (w, e)) (he : e ≠ 0) : v.setv p x = (.nil, e) := by rw [V.setv, if_neg (by simp [hv]), if_neg (by simp [hx]), h, if_pos he]
theorem setv_bad {v x w : V} {p : List StT} (hv : v.err = 0) (hx : x.err = 0) (h : v.set p x = (w, 0)) (he : w.err ≠ 0) : v.setv p x = (.nil, w.err) := by rw [V.setv, if_neg (by simp [hv]), if_neg (by simp [hx]), h, if_neg (by simp), if_pos he]
theorem setv_ok {v x w : V} {p : List StT} (hv : v.err = 0) (hx : x.err = 0) (h : v.set p x = (w, 0)) (he : w.err = 0) : v.setv p x = (w, 0) := by rw [V.setv, if_neg (by simp [hv]), if_neg (by simp [hx]), h, if_neg (by simp), if_neg (by simp [he])]
def setAV (v : V) (p : List StT) (x : V) : AV := .tup [.agg ((v.setv p x).1.cs true), .c (.int .i64 (v.setv p x).2)]
theorem setAV_of {v u x : V} {p : List StT} {e : Int} (h : v.setv p x = (u, e)) : setAV v p x = .tup [.agg (u.cs true), .c (.int .i64 e)] := by rw [setAV, h]
theorem fndAV_fresh (v : V) (s : StT) : Fresh (fndAV v s) := .tup (FlL.cons (.c _) (FlL.cons (.c _) .nil))
theorem Reown.rot3 (a b c d : Own) (l : List Own) : Reown (a :: b :: c :: d :: l) (b :: c :: d :: a :: l) := .perm (List.perm_middle (l₁ := [b, c, d])).symm
theorem Reown.step {cur ok bx ctx kids ok3 oi3 ob oa : Own} (h : Reown [kids] [ok3, oi3, ob, oa]) : Reown [cur, ok, bx, ctx, kids] [bx, ok3, oi3, .grp [cur, ok, ob, oa, ctx]] := by
  refine (Reown.left (c := [cur, ok, bx, ctx]) h).trans ⟨fun y => by simp only [fps_cons, fps_nil, fp_grp, List.count_append, List.count_nil, List.cons_append, List.nil_append]; omega, fun w A h => ?_⟩
  simp only [List.forall_mem_cons, List.cons_append, List.nil_append, ok_grp, List.not_mem_nil, false_implies, implies_true, and_true] at h ⊢
  obtain ⟨q1, q2, q3, q4, q5, q6, q7, q8⟩ := h
  exact ⟨q3, q5, q6, q1, q2, q7, q8, q4⟩
theorem Reown.fin {cur ok oi ctx okx oix : Own} {l : List Own} (h : Reown [cur, okx, oix, ctx] l) : Reown [cur, ok, oi, ctx, okx, oix] l := by
  refine Reown.trans ⟨fun y => by simp only [fps_cons, fps_nil, List.count_append, List.count_nil]; omega, fun w A h => ?_⟩ h
  simp only [List.forall_mem_cons, List.not_mem_nil, false_implies, implies_true, and_true] at h ⊢
  exact ⟨h.1, h.2.2.2.2.1, h.2.2.2.2.2, h.2.2.2.1⟩
theorem pair_at {fr : Bool} {v x : V} {j : Nat} (h : j < 2) : ((v.cs fr ++ x.cs fr).drop (j * 5)).take 5 = (if j = 0 then v else x).cs fr := by
  have h1 := V.cs_length fr v
  have h2 := V.cs_length fr x
  rcases Nat.lt_or_ge j 1 with h0 | h0
  · obtain rfl : j = 0 := by omega
    rw [Nat.zero_mul, List.drop_zero, List.take_left' h1]; rfl
  · obtain rfl : j = 1 := by omega
    rw [Nat.one_mul, List.drop_left' h1, List.take_of_length_le (by omega)]; rfl
theorem cells_at {cs : List (List AV)} {sp : List Value} {i : Nat} {c : List AV} (h : cs[i]? = some c) : cs.flatten ++ sp.map AV.c = (cs.take i).flatten ++ c ++ ((cs.drop (i + 1)).flatten ++ sp.map AV.c) := by
  obtain ⟨hi, rfl⟩ := List.getElem?_eq_some_iff.1 h
  have h2 := congrArg List.flatten (show cs = cs.take i ++ cs[i] :: cs.drop (i + 1) by rw [← List.drop_eq_getElem_cons hi, List.take_append_drop])
  rw [List.flatten_append, List.flatten_cons] at h2
  rw [h2]
  simp only [List.append_assoc]
theorem set_ok {fr fr2 c2 : Bool} {v x : V} {p : List StT} {ys zs : List AV} (hv : Vc fr v ys) (hx : Vc fr x zs) (hw : v.wf) (hxw : x.wf) (hp : p.length * 32 ≤ reach ∧ ∀ s ∈ p, s.wf) : Fn Tryz.prog 64 [.agg ys, .sl fr2 c2 eSt (StT.css p), .agg zs] (setAV v p x) := by
  obtain ⟨hp80, hpw⟩ := hp
  have hpl : p.length ≤ 4398046511104 := by unfold reach at hp80; omega
  subst hv hx
  refine AC.of_J Tryz.func64 rfl Tryz.ntmps64 rfl fun w0 A0 => ?_
  refine Zs (JL.box_agg (.tmp rfl) rfl fun b3 => JL.box_agg (.tmp rfl) rfl fun b5 => JL.alloc z26 rfl rfl fun b6 => Zq rfl (QW.assign .const) (Zn (J.seq (Zs (Zq rfl (QW.load_box 2 ty26 (.tmp rfl) rfl (take_at vl rfl) vl) (Zq rfl (QW.load_box 1 ty26 (.tmp rfl) rfl (take_at vl rfl) vl) ?_))))))
  refine Zq rfl (QW.buildA (idx := [0, 1]) (sz := 5) (by kernel_rfl) z142 rfl (.cons (.tmp rfl) (.cons (.tmp rfl) .nil)) rfl rfl rfl (fill_two (z0 := nilC) (z1 := nilC) rfl rfl (by exact vl) (by exact vl))) ?_
  refine Zq rfl (QW.move .const) (Zn (J.block (J.loopK (ι := Nat) [1, 3, 5, 6, 20] (fun j => [(21, .c (.int .i64 (j : Int)))]) (fun _ oo => oo) (fun j => j ≤ 2 ∧ (0 < j → v.err = 0) ∧ (1 < j → x.err = 0)) (fun j => 2 - j) 0 (⟨by decide, fun h => absurd h (by decide), fun h => absurd h (by decide)⟩) (Wk.re (.cons rfl lr (.cons rfl lr (.cons rfl lr (.cons rfl lr (.cons rfl lr (.cons rfl lr .nil)))))) (Reown.refl _) (fun _ h => by first | exact h | simp [h])) ?_)))
  intro j ⟨hj2, he1, he2⟩
  refine J.conv (by (try simp only [nl, stepsO, valO, nthO, curO, mrg, AV.cellsOf, splice_zero, splice_succ, Nat.reduceAdd]); rfl) ?_
  refine Zs (Zq rfl (QW.lss (.tmp rfl) .const) (Zn (J.seq ?_)))
  refine J.cond (.tmp rfl) (fun c1 => ?_) (fun c1 => ?_)
  · skip
    have hj1 : j < 2 := by (simp at c1; omega)
    have hwj : (if j = 0 then v else x).wf := by split <;> assumption
    refine Zk (J.seq (J.block (Zs (Zq rfl (QW.indexA (zs := (if j = 0 then v else x).cs fr) (ln := 2) (et := 26) (by kernel_rfl) ty26 (.tmp rfl) (.tmp rfl) rfl (by omega) (pair_at hj1) vl) ?_))))
    refine JL.alloc z26 rfl rfl fun b9 => JL.store_boxF 0 ty26 (.tmp rfl) rfl (.tmp rfl) rfl vl rfl rfl (Zn (Zs (Zq rfl (QW.load_box 0 ty26 (.tmp rfl) rfl (take_at vl rfl) vl) (Zq rfl (QW.call gofn16 (.cons (.tmp rfl) .nil) (check_ok Vc.self hwj)) (Zq rfl (QW.assign (.tmp rfl)) (Zn (Zs (Zq rfl (QW.move (.tmp rfl)) ?_))))))))
    refine Zq rfl (QW.neq (.tmp rfl) .const) (Zn ?_)
    refine J.cond (.tmp rfl) (fun c2 => ?_) (fun c2 => ?_)
    · skip
      simp at c2
      have hbad : v.setv p x = (.nil, (if j = 0 then v else x).err) := by
        by_cases h0 : j = 0
        · rw [if_pos h0] at c2 ⊢
          rw [V.setv, if_pos c2]
        · rw [if_neg h0] at c2 ⊢
          rw [V.setv, if_neg (by simp [he1 (by omega)]), if_pos c2]
      refine Zs (Zq rfl (QW.build (idx := []) pl26 z26 rfl .nil rfl rfl rfl rfl) (Zq rfl (QW.move (.tmp rfl)) (JL.store_boxF 1 ty26 (.tmp rfl) rfl (.tmp rfl) rfl rfl rfl rfl (Zq rfl (QW.assign (.tmp rfl)) (Zn (J.ret (blkQ.r (thenQ.r (thenQ.r ?_)))))))))
      exact blkQ.r (thenQ.r (Zr [.k, .k, .k, .k] (RetEv.two rfl (REv.cell 1 ty26 rfl rfl rfl rfl (.aggL (.cons lr (.cons lr (.cons lr (.cons (.nil true false _) (.cons (.nil true false _) .nil))))))) (REv.tmp rfl lr)) rfl ⟨congrArg Res.ret (setAV_of hbad).symm, rfl⟩))
    simp at c2
    have he1b : v.err = 0 := by
      by_cases h0 : j = 0
      · rw [if_pos h0] at c2; exact c2
      · exact he1 (by omega)
    have he2b : 1 < j + 1 → x.err = 0 := fun h => by
      rw [if_neg (by omega)] at c2; exact c2
    refine J.skip (blkQ.n (thenQ.n (J.region_lit (Zq rfl (QW.add (.tmp rfl) .const (w64 (by omega))) (Zq rfl (QW.move (.tmp rfl)) (Zn ?_))))))
    exact ⟨j + 1, ⟨by omega, fun _ => he1b, he2b⟩, by omega, Wk.re (.cons rfl lr (.cons rfl lr (.cons rfl lr (.cons rfl lr (.cons rfl lr (.cons rfl lr .nil)))))) (Reown.dropN 1 _ rfl) (fun _ h => by first | exact h | simp [h])⟩
  obtain rfl : j = 2 := by (simp at c1; omega)
  have hv0 := he1 (by decide)
  have hx0 := he2 (by decide)
  have hfv := V.fine_of hv0
  refine J.exit (thenQ.x (thenQ.x (blkQ.hit (thenQ.n (Zs (Zq rfl (QW.load_box 2 ty26 (.tmp rfl) rfl (take_at vl rfl) vl) (JL.callRF [] gofn21 rfl Lent.nil (fun _ => (.cons (.tmp rfl) .nil)) (clone_ok Vc.self hw) (.inl rfl) fun x32 o32 h32 => ?_)))))))
  obtain ⟨kv32, iv32, ok32, oi32, rfl, rfl, hV32⟩ := h32
  refine JL.alloc z26 rfl rfl fun b11 => JL.store_boxF 0 ty26 (.tmp rfl) rfl (.tmp rfl) rfl rfl rfl rfl (Zn (Zs (Zq rfl (QW.assign (.tmp rfl)) (Zn (J.seq (Zs (Zq rfl (QW.move (.tmp rfl)) (Zq rfl (QW.len_slE sl67 (.tmp rfl) (StT.css_length _)) ?_))))))))
  refine Zq rfl (QW.move .const) (Zn (J.block (J.reown ((Reown.rot3 _ _ _ _ _).trans (Reown.nilGrpE _)) (J.loopK (ι := Nat × At) [1, 5, 6, 11, 33, 34] (fun ⟨j, z⟩ => [(35, .c (.int .i64 (j : Int))), (12, .c (.pointer (some ⟨z.b, z.off, none⟩)))]) (fun ⟨j, z⟩ oo => List.set (List.set (List.set (List.set oo 3 (.box z.b (holeC z z.u z.kv z.iv))) 4 (z.ok)) 5 (z.oi)) 6 (z.ctx)) (fun ⟨j, z⟩ => j ≤ p.length ∧ z.Ok b11 ∧ v.set p x = plugR z.plug (z.u.set (p.drop j) x)) (fun ⟨j, z⟩ => p.length - j) ⟨0, ⟨b11, 0, [], [], v, kv32, iv32, ok32, oi32, .grp [], id⟩⟩ (⟨Nat.zero_le _, ⟨rfl, hV32, Law.root b11, hfv, hw⟩, (plugR_id _ V.set_nil).symm⟩) (Wk.re (.cons rfl lr (.cons rfl lr (.cons rfl lr (.cons rfl lr (.cons rfl lr (.cons rfl lr (.cons rfl lr (.cons rfl lr .nil)))))))) (Reown.ofEq rfl) (fun _ h => by first | exact h | simp [h])) ?_))))
  intro ⟨j, z⟩ ⟨hj, hz, hset⟩
  refine J.conv (by (try simp only [nl, stepsO, valO, nthO, curO, mrg, AV.cellsOf, splice_zero, splice_succ, Nat.reduceAdd]); rfl) ?_
  refine Zs (Zq rfl (QW.lss (.tmp rfl) (.tmp rfl)) (Zn (J.seq ?_)))
  refine J.cond (.tmp rfl) (fun c2 => ?_) (fun c2 => ?_)
  · skip
    have hlt : j < p.length := by simpa using c2
    have hsw := hpw _ (List.getElem_mem hlt)
    refine Zk (J.seq (J.block (Zs (Zq rfl (QW.move (.tmp rfl)) (Zq rfl (QW.index_sl sl67 ty66 rfl (.tmp rfl) (.tmp rfl) rfl (by exact StT.css_getE hlt)) ?_)))))
    refine Zq rfl (QW.load_ref ty66 (.tmp rfl) rfl rfl) (JL.alloc z66 rfl rfl fun b14 => Zq rfl (QW.assign (.tmp rfl)) (JL.store_boxF 0 ty66 (.tmp rfl) rfl (.tmp rfl) rfl rfl rfl rfl (Zn (J.seq (J.region_tailK 9 mixed (by kernel_rfl) (by kernel_rfl) (by kernel_rfl) rfl ?_)))))
    refine .cons [] rfl rfl rfl (.q rfl (QW.move (.tmp rfl))) ?_
    refine .cons [41] rfl rfl rfl (.q rfl (QW.nil_ptr (.tmp rfl))) ?_
    refine .cons [42] rfl rfl rfl (.q rfl (QW.load_box 4 ty26 (.tmp rfl) rfl (hole_load hz.off) rfl)) ?_
    refine .cons [] rfl rfl rfl (.q rfl (QW.load_box 0 ty66 (.tmp rfl) rfl rfl rfl)) ?_
    refine .cons [43, 44] rfl rfl rfl (.q rfl (QW.callLF [.k, .k, .k, .k, .k, .l, .l] gofn29 (Lent.cons (hz.tr.lentK) (Lent.cons (hz.tr.lentI) Lent.nil)) rfl rfl (fun _ => (.cons (Ev.le (.tmp rfl) (V.raw_le (by simp) (by simp))) (.cons (.tmp rfl) .nil))) (find_ok (fr := false) (v := z.u) (s := p[j]'hlt) Vc.self Sc.self hz.fine.part (hpw _ (List.getElem_mem hlt))) (fndAV_fresh _ _))) ?_
    refine .cons [45] rfl rfl rfl (.q rfl (QW.move (.tmp rfl))) ?_
    refine .cons [40] rfl rfl rfl (.q rfl (QW.extract (.tmp rfl) rfl)) ?_
    refine .cons [40] rfl rfl rfl (.q rfl (QW.extract (.tmp rfl) rfl)) ?_
    refine .cons [46] rfl rfl rfl (.q rfl (QW.assign (.tmp rfl))) ?_
    refine .nil ?_
    refine Zq rfl (QW.assign (.tmp rfl)) (Zn (J.cutK (ι := V × Nat × Int × Value × Value × Own × Own) [1, 5, 6, 11, 12, 13, 14, 33, 34, 35, 36, 37, 38, 39, 40, 41, 42, 43, 44, 45, 46, 47] (fun ⟨u2, i2, e2, kv2, iv2, ok2, oi2⟩ => [(15, .c (.int .i64 (i2 : Int))), (16, .c (.int .i64 e2))]) (fun ⟨u2, i2, e2, kv2, iv2, ok2, oi2⟩ oo => List.set (List.set (List.set oo 4 (.box z.b (holeC z u2 kv2 iv2))) 5 (ok2)) 6 (oi2)) (fun ⟨u2, i2, e2, kv2, iv2, ok2, oi2⟩ => z.u.stp (p[j]'hlt) (decide (p.drop (j + 1) = [])) = (u2, i2, e2) ∧ VTr u2 kv2 iv2 ok2 oi2) ?_ ?_))
    · skip
      refine Zs (Zq rfl (QW.move (.tmp rfl)) (Zq rfl (QW.neq (.tmp rfl) .const) (Zq rfl (QW.move (.tmp rfl)) (Zg rfl (fun hg => (QW.move (.tmp rfl))) (Zg rfl (fun hg => (QW.move (.tmp rfl))) (Zg rfl (fun hg => (QW.len_slE sl67 (.when rfl hg) (StT.css_length _))) (Zg rfl (fun hg => (QW.sub (.when rfl hg) .const (w64 (by omega)))) (Zg rfl (fun hg => (QW.eql (.when rfl hg) (.when rfl hg))) (Zq rfl (QW.pick_and (.tmp rfl) (.tmp rfl)) ?_)))))))))
      refine Zn ?_
      refine J.cond (.tmp rfl) (fun c3 => ?_) (fun c3 => ?_)
      · skip
        have he0 : (z.u.fnd (p[j]'hlt)).2 ≠ 0 := by (simp at c3; exact c3.1)
        have hlast : p.drop (j + 1) = [] := by (simp at c3; exact List.drop_of_length_le (by omega))
        refine J.region_lit (Zq rfl (QW.move (.tmp rfl)) (Zq rfl (QW.load_box 0 ty66 (.tmp rfl) rfl rfl rfl) (Zq rfl (QW.move (.tmp rfl)) (Zq rfl (QW.move (.tmp rfl)) (JL.callRF [.k, .k, .k, .k, .p, .p, .p] gofn77 rfl Lent.nil (fun _ => (.cons (.tmp rfl) (.cons (.tmp rfl) (.cons (.tmp rfl) (.cons (.tmp rfl) .nil))))) (grow_ok (z := z) (s := p[j]'hlt) (i := (z.u.fnd (p[j]'hlt)).1) (e := (z.u.fnd (p[j]'hlt)).2) Sc.self hz.off hz.tr hz.fine.part hz.wf (hpw _ (List.getElem_mem hlt)) rfl he0) (.inl rfl) fun x62 o62 h62 => ?_)))))
        obtain ⟨kv62, iv62, ok62, oi62, rfl, rfl, hV62⟩ := h62
        refine Zq rfl (QW.move (.tmp rfl)) (Zq rfl (QW.extract (.tmp rfl) rfl) (Zq rfl (QW.extract (.tmp rfl) rfl) (Zq rfl (QW.assign (.tmp rfl)) (Zq rfl (QW.assign (.tmp rfl)) (Zn ?_)))))
        exact ⟨⟨_, _, _, kv62, iv62, ok62, oi62⟩, ⟨by rw [hlast]; rfl, hV62⟩, Wk.re (.cons rfl lr (.cons rfl lr (.cons rfl lr (.cons rfl lr (.cons rfl lr (.cons rfl lr (.cons rfl lr (.cons rfl lr (.cons rfl lr (.cons rfl lr (.cons rfl lr (.cons rfl lr (.cons rfl lr (.cons rfl lr (.cons rfl lr (.cons rfl lr (.cons rfl lr (.cons rfl lr (.cons rfl lr (.cons rfl lr (.cons rfl lr (.cons rfl lr (.cons rfl lr (.cons rfl lr .nil)))))))))))))))))))))))) (Reown.refl _) (fun _ h => by first | exact h | simp [h])⟩
      have hno : (z.u.fnd (p[j]'hlt)).2 = 0 ∨ p.drop (j + 1) ≠ [] := by
        simp at c3
        by_cases h0 : (z.u.fnd (p[j]'hlt)).2 = 0
        · exact .inl h0
        · refine .inr fun hd => ?_
          have := c3 h0
          rw [List.drop_eq_nil_iff] at hd
          omega
      refine Zk ?_
      exact ⟨⟨z.u, (z.u.fnd (p[j]'hlt)).1, (z.u.fnd (p[j]'hlt)).2, z.kv, z.iv, z.ok, z.oi⟩, ⟨by unfold V.stp; by_cases h0 : (z.u.fnd (p[j]'hlt)).2 = 0; (rw [if_pos h0, h0]); (rw [if_neg h0, if_neg (by simpa using hno.resolve_left h0)]), hz.tr⟩, Wk.re (.cons rfl lr (.cons rfl lr (.cons rfl lr (.cons rfl lr (.cons rfl lr (.cons rfl lr (.cons rfl lr (.cons rfl lr (.cons rfl lr (.cons rfl lr (.cons rfl lr (.cons rfl lr (.cons rfl lr (.cons rfl lr (.cons rfl lr (.cons rfl lr (.cons rfl lr (.cons rfl lr (.cons rfl lr (.cons rfl lr (.cons rfl lr (.cons rfl lr (.cons rfl lr (.cons rfl lr .nil)))))))))))))))))))))))) (Reown.refl _) (fun _ h => by first | exact h | simp [h])⟩
    · intro ⟨u2, i2, e2, kv2, iv2, ok2, oi2⟩ ⟨hst, hV2⟩
      refine J.conv (by (try simp only [nl, stepsO, valO, nthO, curO, mrg, AV.cellsOf, splice_zero, splice_succ, Nat.reduceAdd]); rfl) ?_
      refine J.seq (Zs (Zq rfl (QW.move (.tmp rfl)) (Zq rfl (QW.neq (.tmp rfl) .const) (Zn ?_))))
      refine J.cond (.tmp rfl) (fun c3 => ?_) (fun c3 => ?_)
      · skip
        have he2 : e2 ≠ 0 := by simpa using c3
        refine Zs (Zq rfl (QW.build (idx := []) pl26 z26 rfl .nil rfl rfl rfl rfl) (Zq rfl (QW.move (.tmp rfl)) (JL.store_boxF 1 ty26 (.tmp rfl) rfl (.tmp rfl) rfl rfl rfl rfl (Zq rfl (QW.assign (.tmp rfl)) (Zn (J.ret (thenQ.r (blkQ.r (thenQ.r ?_)))))))))
        exact thenQ.r (blkQ.r (thenQ.r (Zr [.k, .k, .k, .k, .k, .k, .k, .k] (RetEv.two rfl (REv.cell 1 ty26 rfl rfl rfl rfl (.aggL (.cons lr (.cons lr (.cons lr (.cons (.nil true false _) (.cons (.nil true false _) .nil))))))) (REv.tmp rfl lr)) rfl ⟨congrArg Res.ret (setAV_of (setv_err hv0 hx0 (e := e2) (w := .nil) (by rw [hset, drop_at hlt, V.stp_no hst he2]; simp [plugR, he2]) he2)).symm, rfl⟩)))
      obtain rfl : e2 = 0 := by simpa using c3
      obtain ⟨hlt2, huw2, hfk, hset3⟩ := V.stp_yes (x := x) hz.fine hz.wf hsw hst
      refine Zk ?_
      obtain ⟨ci, ui, o2, q1, q2, q3, q4, q5, q6⟩ := hV2.is.inv
      rw [V.css_length] at q2
      refine J.reown (Reown.split2 (i := 6) rfl q6) (J.lay 6 rfl (fun a0 hv hx => absurd hlt2 (by rw [← q2, hx]; simp)) fun b2 cap sp hiv hcap hsz5 hfl => ?_)
      subst hiv
      refine J.region_lit (Zq rfl (QW.move (.tmp rfl)) (Zq rfl (QW.nil_ptr (.tmp rfl)) (Zq rfl (QW.field_ptr fo26_4 (.tmp rfl) rfl) (Zq rfl (QW.load_box1 4 ty24 (.tmp rfl) rfl ((hole_at hz.off 4 (by decide)).trans rfl)) ?_))))
      refine Zq rfl (QW.move (.tmp rfl)) (Zq rfl (QW.index_c (m := i2) sl24 ty26 (.tmp rfl) (.tmp rfl) rfl (by omega)) (Zq rfl (QW.assign (.tmp rfl)) (JL.nil (blkQ.n (thenQ.n ?_)))))
      obtain ⟨kv3, iv3, ok3, oi3, ob, oa, u1, u3, e1, e3, e4, e5, e6, e7, e8, e9, e10⟩ := kids_at hlt2 q2 q3 q1 q4 q5
      refine J.reown (Reown.cons (Reown.cons (Reown.cons (Reown.cons (Reown.step e10))))) (J.region_lit (Zq rfl (QW.add (.tmp rfl) .const (w64 (by omega))) (Zq rfl (QW.move (.tmp rfl)) (Zn ?_))))
      exact ⟨⟨j + 1, ⟨b2, 0 + i2 * 5, (ci.take i2).flatten, (ci.drop (i2 + 1)).flatten ++ sp.map AV.c, u2.items[i2], kv3, iv3, ok3, oi3, .grp [.box z.b (holeC z u2 kv2 (sv b2 0 ci.length (cap + 1))), ok2, ob, oa, z.ctx], fun w => z.plug (u2.setAt i2 w)⟩⟩, ⟨hlt, ⟨by rw [flatten_length (sz := 5) _ (fun x hx => q3 x (List.mem_of_mem_take hx)), List.length_take, Nat.min_eq_left (by omega)]; exact (Nat.zero_add _).symm, e3, hz.law.into huw2 hV2.k1 hV2.i1 hV2.ks hlt2 q2 q3 rfl hcap hfl e4 e5 e6 e7 e8 e9, hfk, huw2.kid (List.getElem_mem hlt2)⟩, by rw [hset, drop_at hlt, hset3, plugR_if]⟩, by show p.length - (j + 1) < p.length - j; omega, Wk.re (.cons rfl lr (.cons rfl lr (.cons rfl lr (.cons rfl lr (.cons rfl lr (.cons rfl lr (.cons rfl lr (.cons rfl lr .nil)))))))) ((Reown.dropN 1 _ rfl).trans (Reown.ofEq (by show [_, _, _, Own.box b2 _, _, _, _] = [_, _, _, Own.box b2 _, _, _, _]; rw [cells_at e1]; rfl))) (fun _ h => by first | exact h | simp [h])⟩
  have hge : p.length ≤ j := by simpa using c2
  rw [List.drop_of_length_le hge] at hset
  have hset2 : v.set p x = (z.plug x, 0) := hset
  have hww : (z.plug x).wf := by have := V.set_wf hw hfv hpw hxw; rwa [hset2] at this
  refine J.exit (thenQ.x (thenQ.x (blkQ.hit (thenQ.n (Zs (Zq rfl (QW.move (.tmp rfl)) (Zq rfl (QW.load_box 1 ty26 (.tmp rfl) rfl (take_at vl rfl) vl) (JL.callRF [] gofn21 rfl Lent.nil (fun _ => (.cons (.tmp rfl) .nil)) (clone_ok Vc.self hxw) (.inl rfl) fun x78 o78 h78 => ?_))))))))
  obtain ⟨kv78, iv78, ok78, oi78, rfl, rfl, hV78⟩ := h78
  refine Zq rfl (QW.nil_ptr (.tmp rfl)) (JL.store_box 3 ty26 (.tmp rfl) rfl (.tmp rfl) rfl rfl (by rw [hole_len _ _ _ _ hz.off]; exact Nat.ble_eq_true_of_le (by omega)) (hole_put hz.off) rfl ?_)
  refine Zn (J.seq (J.seq ?_))
  obtain ⟨kw, iw, okw, oiw, hW, hR⟩ := hz.law x kv78 iv78 ok78 oi78 hxw hV78
  refine J.reown (Reown.cons (Reown.cons (Reown.cons (Reown.fin hR)))) (J.region_lit (Zq rfl (QW.load_box 3 ty26 (.tmp rfl) rfl rfl rfl) (Zq rfl (QW.callLF [.k, .k, .k, .k, .l, .l] gofn16 (Lent.cons (hW.lentK) (Lent.cons (hW.lentI) Lent.nil)) rfl rfl (fun _ => (.cons (Ev.le (.tmp rfl) (V.raw_le (by simp) (by simp))) .nil)) (check_ok (fr := false) (v := z.plug x) Vc.self hww) (Fl.c _)) ?_)))
  refine Zq rfl (QW.assign (.tmp rfl)) (Zn (Zs (Zq rfl (QW.move (.tmp rfl)) (Zq rfl (QW.neq (.tmp rfl) .const) (Zn ?_)))))
  refine J.cond (.tmp rfl) (fun c3 => ?_) (fun c3 => ?_)
  · skip
    have hbd : (z.plug x).err ≠ 0 := by simpa using c3
    exact Zs (Zq rfl (QW.build (idx := []) pl26 z26 rfl .nil rfl rfl rfl rfl) (Zq rfl (QW.move (.tmp rfl)) (JL.store_boxF 0 ty26 (.tmp rfl) rfl (.tmp rfl) rfl rfl rfl rfl (Zq rfl (QW.assign (.tmp rfl)) (Zn (J.ret (thenQ.r (Zr [.k, .k, .k, .k, .k, .k] (RetEv.two rfl (REv.cell 0 ty26 rfl rfl rfl rfl (.aggL (.cons lr (.cons lr (.cons lr (.cons (.nil true false _) (.cons (.nil true false _) .nil))))))) (REv.tmp rfl lr)) rfl ⟨congrArg Res.ret (setAV_of (setv_bad hv0 hx0 hset2 hbd)).symm, rfl⟩))))))))
  have hgd : (z.plug x).err = 0 := by simpa using c3
  refine Zk (J.seq (J.close 4 rfl hW.ks.clos rfl (fun _ h => by cases h) ?_))
  refine J.close 4 rfl hW.is.clos rfl (fun _ h => by cases h) ?_
  exact J.region_lit (Zq rfl (QW.load_box 3 ty26 (.tmp rfl) rfl rfl rfl) (JL.store_boxF 0 ty26 (.tmp rfl) rfl (.tmp rfl) rfl rfl rfl rfl (Zq rfl (QW.assign .const) (Zn (J.ret (Zr [.k, .k, .k, .k] (RetEv.two rfl (REv.cell 0 ty26 rfl rfl rfl rfl (V.raw_le (by simp) (by simp))) (REv.tmp rfl lr)) rfl ⟨congrArg Res.ret (setAV_of (setv_ok hv0 hx0 hset2 hgd)).symm, rfl⟩))))))
end Go.Proofs.YtmccnmahegbmpaaGreat.J

/- Walks: operations of lists and records. -/
namespace Go.Proofs.YtmccnmahegbmpaaGreat.J
open Go Go.RowKit
set_option maxRecDepth 10000
set_option maxHeartbeats 4000000
def errE {α : Type} : Except Int α → Int
  | .ok _ => 0
  | .error c => c
def PlR (r : Except Int V) : Res → List Own → Prop := PanR (errE r = 0) (errV (errE r)) fun x o => ∃ v, r = .ok v ∧ x = .agg (v.cs false) ∧ o = []
theorem PlR.ok {r : Except Int V} {v : V} (h : r = .ok v) : PlR r (.ret (.agg (v.cs false))) [] := .inl ⟨by rw [h]; rfl, _, rfl, v, h, rfl, rfl⟩
theorem PlR.er {r : Except Int V} {c : Int} (h : r = .error c) (hc : ¬ c = 0) : PlR r (.pan (.iface 33 (.int .i64 c))) [] := .inr ⟨by rw [h]; exact hc, by rw [h]; rfl, rfl⟩
theorem two_of {l : List V} (h : l.length = 2) : ∃ a b, l = [a, b] := by
  match l, h with
  | [a, b], _ => exact ⟨a, b, rfl⟩
theorem one_of {l : List V} (h : l.length = 1) : ∃ a, l = [a] := by
  match l, h with
  | [a], _ => exact ⟨a, rfl⟩
theorem partOk_txt {v : V} (h : partOk v = true) : v.text.length ≤ 128 := by
  obtain ⟨k, b, t, ks, is⟩ := v
  show t.length ≤ 128
  unfold partOk at h
  have hz : t = [] → t.length ≤ 128 := fun h => by subst h; simp
  by_cases h3 : k = 3
  · subst h3; simp at h; omega
  · refine hz ?_
    simp only [h3, if_false] at h
    repeat' split at h
    all_goals simp at h
    all_goals simp [h]
theorem li_wf {l : List V} (hl : ∀ x ∈ l, x.good) (hn : l.length ≤ 8) : (V.li l).wf := .mk (by decide) (by decide) (by decide) (by decide) (by unfold reach; omega) (fun _ h => by cases h) (fun x hx => (hl x hx).wf)
theorem pe8 (t : Str) (a : V) : plainE 8 t [a] = getE a ⟨true, t, 0⟩ := rfl
theorem pe9 (t : Str) (a b : V) : plainE 9 t [a, b] = if a.kind ≠ 4 ∨ b.kind ≠ 2 then .error 81 else if intE b.bits ≠ 0 then .error 82 else getE a ⟨false, [], intV b.bits⟩ := rfl
theorem pe10 (t : Str) (a : V) : plainE 10 t [a] = if a.kind < 3 then .error 81 else .ok (.nu (ofN ((a.text.length : Int) + (a.items.length : Int)))) := rfl
theorem pe23 (t : Str) (l : List V) : plainE 23 t l = madeE (.li l) := rfl
theorem pe24 (t : Str) (a b : V) : plainE 24 t [a, b] = if a.kind ≠ 4 then .error 81 else setE a ⟨false, [], a.items.length⟩ b := rfl
theorem pe25 (t : Str) (a b : V) : plainE 25 t [a, b] = if a.kind ≠ 5 then .error 81 else setE a ⟨true, t, 0⟩ b := rfl
theorem getE_ok {v : V} {s : StT} (h : (v.getv [s]).2 = 0) : getE v s = .ok (v.getv [s]).1 := if_pos h
theorem getE_er {v : V} {s : StT} (h : ¬ (v.getv [s]).2 = 0) : getE v s = .error (v.getv [s]).2 := if_neg h
theorem setE_ok {v x : V} {s : StT} (h : (v.setv [s] x).2 = 0) : setE v s x = .ok (v.setv [s] x).1 := if_pos h
theorem setE_er {v x : V} {s : StT} (h : ¬ (v.setv [s] x).2 = 0) : setE v s x = .error 84 := if_neg h
theorem step_wf {s : StT} (h : s.wf) : [s].length * 32 ≤ reach ∧ ∀ x ∈ [s], x.wf := ⟨by unfold reach; simp, fun x hx => by rw [List.mem_singleton.1 hx]; exact h⟩
theorem V.le_tf {F : List (Value × AV)} (v : V) : Le F (.agg (v.cs true)) (.agg (v.cs false)) := .aggL (V.cs_le true false (fun h => by cases h) v)
theorem lists_ok {fr : Bool} {o : Int} {bb : Nat} {t : Str} {args : List EX} {l : List V} {ys : List AV} (he : Xc fr (.mk o bb t args) ys) (ht : t.length ≤ reach) (hl : ∀ x ∈ l, x.good) (hn : l.length ≤ 8 ∧ (o = 23 ∨ ((o = 8 ∨ o = 10) ∧ l.length = 1) ∨ ((o = 9 ∨ o = 24 ∨ o = 25) ∧ l.length = 2))) :
    AC Tryz.prog 116 [] [.agg ys, .sl false false eV (V.css false l)] (PlR (plainE o t l)) := by
  subst he
  obtain ⟨hn8, hn⟩ := hn
  refine AC.of_J Tryz.func116 rfl Tryz.ntmps116 rfl fun w0 A0 => ?_
  refine Zs (JL.box_agg (.tmp rfl) rfl fun b2 => JL.alloc z26 rfl rfl fun b4 => Zn (J.seq (Zs (Zq rfl (QW.field_ptr fo79_0 (.tmp rfl) rfl) (Zq rfl (QW.load_box1 1 ty3 (.tmp rfl) rfl rfl) (Zn (J.block ?_)))))))
  refine Zs (Zq rfl (QW.eql (.tmp rfl) .const) (Zq rfl (QW.assign (.tmp rfl)) (Zn ?_)))
  refine J.cond (.tmp rfl) (fun c1 => ?_) (fun c1 => ?_)
  · skip
    obtain rfl : o = 8 := by simpa using c1
    obtain ⟨a, rfl⟩ := one_of (l := l) (by omega)
    have ha := hl a (by simp)
    refine J.seq (J.regionX mixed (Zf 0 [] rfl (fun _ => QW.move (.tmp rfl)) (Zf 1 [17] rfl (fun _ => QW.index_sl sl24 ty26 rfl (.tmp rfl) .const rfl rfl) (Zf 2 [18] rfl (fun _ => QW.load_ref ty26 (.tmp rfl) (take_at0 vl rfl) vl) (Zf 3 [] rfl (fun _ => QW.field_ptr fo79_2 (.tmp rfl) rfl) (Zo 4 1 [20] rfl (fun _ ho_ => QW.load_box1 1 ty9 (.tmp rfl) ho_ rfl) (Zf 5 [21] rfl (fun _ => QW.build (idx := [0, 1]) pl66 z66 rfl (.cons .const (.cons (.tmp rfl) .nil)) rfl rfl rfl rfl) (JX.one 6 [true, true, true, true, true, true] rfl (by kernel_rfl) (by kernel_rfl) rfl rfl (by kernel_rfl) rfl fun bs6_ pe_ ex_ => ?_))))))))
    refine JL.conv (by (try simp only [vlF, bxF, tkM, lvM, Flt.val, Flt.bx, nx, nl, stepsO, valO, nthO, curO, mrg, AV.cellsOf, splice_zero, splice_succ, Nat.reduceAdd]); rfl) ?_
    refine JL.callPF [] gofn126 rfl Lent.nil (fun _ => (.cons (.tmp rfl) (.cons (.tmp rfl) .nil))) (eget_ok (v := a) (s := ⟨true, t, 0⟩) Vc.self ha.wf ⟨ht, show (-9223372036854775808 : Int) ≤ 0 ∧ (0 : Int) ≤ 9223372036854775807 by decide⟩) (.inl rfl) (fun k23 x23 o23 h23 => ?_) (fun k23 => ?_)
    rotate_left
    · skip
      refine thenQ.p (thenQ.p (blkQ.p (thenQ.p ?_)))
      exact ⟨_, selP [.k, .k] _, _, rfl, rfl, sel_perm [.k, .k] _, PlR.er ((pe8 t a).trans (getE_er k23)) k23⟩
    obtain ⟨rfl, rfl⟩ := h23
    refine JL.nil ?_
    refine thenQ.n ⟨[_], _, rfl, rfl, rfl, rfl, rfl, Reown.mrgN 2 rfl rfl, ⟨rfl, rfl⟩, trivial, ?_⟩
    refine JX.conv (S' := [6, 5, 4, 3, 2, 1, 0]) rfl (by (try simp only [lvM]); rfl) (by (try simp only [vlF, bxF, tkM, lvM, Flt.val, Flt.bx, nx, nl, stepsO, valO, nthO, curO, mrg, AV.cellsOf, splice_zero, splice_succ, Nat.reduceAdd]); rfl) ?_
    refine JX.one 7 [] rfl (by kernel_rfl) (by kernel_rfl) rfl rfl (by kernel_rfl) rfl fun bs7_ pe_ ex_ => ?_
    refine JL.conv (by (try simp only [vlF, bxF, tkM, lvM, Flt.val, Flt.bx, nx, nl, stepsO, valO, nthO, curO, mrg, AV.cellsOf, splice_zero, splice_succ, Nat.reduceAdd]); rfl) ?_
    refine JL.store_boxF 0 ty26 (.tmp rfl) rfl (.tmp rfl) rfl vl rfl rfl (JL.nil ?_)
    refine thenQ.n ⟨[], _, rfl, rfl, rfl, rfl, rfl, Reown.tkN 2 rfl, trivial, trivial, ?_⟩
    refine JX.conv (S' := [7, 6, 5, 4, 3, 2, 1, 0]) rfl (by (try simp only [lvM]); rfl) (by (try simp only [vlF, bxF, tkM, lvM, Flt.val, Flt.bx, nx, nl, stepsO, valO, nthO, curO, mrg, AV.cellsOf, splice_zero, splice_succ, Nat.reduceAdd]); rfl) ?_
    refine JX.fin (by kernel_rfl) (by kernel_rfl) fun bs_ => ?_
    refine QX.conv (by (try simp only [vlF, bxF, tkM, lvM, Flt.val, Flt.bx, nx, nl, stepsO, valO, nthO, curO, mrg, AV.cellsOf, splice_zero, splice_succ, Nat.reduceAdd]); rfl) ?_
    exact thenQ.n (J.ret (blkQ.r (thenQ.r (Zr [.k, .k] (RetEv.one rfl (REv.cell 0 ty26 rfl rfl (take_at vl rfl) vl (V.le_tf _))) rfl (PlR.ok ((pe8 t a).trans (getE_ok k23)))))))
  have n8 : ¬ o = 8 := by simpa using c1
  refine Zs (Zq rfl (QW.eql (.tmp rfl) .const) (Zq rfl (QW.assign (.tmp rfl)) (Zn ?_)))
  refine J.cond (.tmp rfl) (fun c2 => ?_) (fun c2 => ?_)
  · skip
    obtain rfl : o = 9 := by simpa using c2
    obtain ⟨a, b, rfl⟩ := two_of (l := l) (by omega)
    have ha := hl a (by simp)
    have hb := hl b (by simp)
    have hb64 := hb.bits
    refine Zs (Zq rfl (QW.move (.tmp rfl)) (Zq rfl (QW.buildSlice (idx := [0, 1]) (xs := intsAV [4, 2]) sl177 el3 z3 rfl (.cons .const (.cons .const .nil)) rfl rfl rfl rfl rfl rfl rfl rfl rfl) ?_))
    refine JL.callPF [] gofn110 rfl Lent.nil (fun _ => (.cons (.tmp rfl) (.cons (.tmp rfl) .nil))) (kinds_ok _ [4, 2] (by simp) (by simp)) (.inl rfl) (fun k28 x28 o28 h28 => ?_) (fun k28 => ?_)
    rotate_left
    · skip
      refine thenQ.p (blkQ.p (thenQ.p ?_))
      exact ⟨_, selP [.k, .k] _, _, rfl, rfl, sel_perm [.k, .k] _, PlR.er (c := 81) ((pe9 t a b).trans (if_pos (by simp [kindsB] at k28; omega))) (by decide)⟩
    obtain ⟨rfl, rfl⟩ := h28
    refine Zn (Zs (Zq rfl (QW.move (.tmp rfl)) (Zq rfl (QW.index_sl sl24 ty26 rfl (.tmp rfl) .const rfl rfl) (Zq rfl (QW.field_ref fo26_1 (.tmp rfl) rfl) (Zq rfl (QW.load_ref1 ty22 (.tmp rfl) (V.cs_1 _ _)) (Zq rfl (QW.call gofn125 (.cons (.tmp rfl) .nil) (int_ok _ (by assumption))) ?_))))))
    refine Zq rfl (QW.move (.tmp rfl)) (Zq rfl (QW.extract (.tmp rfl) rfl) (Zq rfl (QW.extract (.tmp rfl) rfl) (Zq rfl (QW.assign (.tmp rfl)) (Zq rfl (QW.assign (.tmp rfl)) (Zn (Zs (Zq rfl (QW.move (.tmp rfl)) (Zq rfl (QW.eql (.tmp rfl) .const) ?_))))))))
    refine JL.callPF [] gofn95 rfl Lent.nil (fun _ => (.cons (.tmp rfl) (.cons .const .nil))) (nd_ok _ _) (.inl rfl) (fun k39 x39 o39 h39 => ?_) (fun k39 => ?_)
    rotate_left
    · skip
      refine thenQ.p (blkQ.p (thenQ.p ?_))
      exact ⟨_, selP [.k, .k] _, _, rfl, rfl, sel_perm [.k, .k] _, PlR.er (c := 82) (by rw [pe9, if_neg (by simp [kindsB] at k28; omega), if_pos (by simpa using k39)]) (by decide)⟩
    obtain ⟨rfl, rfl⟩ := h39
    refine Zn (Zs (Zq rfl (QW.move (.tmp rfl)) (Zq rfl (QW.index_sl sl24 ty26 rfl (.tmp rfl) .const rfl rfl) (Zq rfl (QW.load_ref ty26 (.tmp rfl) (take_at0 vl rfl) vl) (Zq rfl (QW.move (.tmp rfl)) (Zq rfl (QW.build (idx := [2]) pl66 z66 rfl (.cons (.tmp rfl) .nil) rfl rfl rfl rfl) ?_))))))
    refine JL.callPF [] gofn126 rfl Lent.nil (fun _ => (.cons (.tmp rfl) (.cons (.tmp rfl) .nil))) (eget_ok (v := a) (s := ⟨false, [], intV b.bits⟩) Vc.self ha.wf ⟨by unfold reach; simp, by have := intV_bounds b.bits (by simpa using k39); show (-9223372036854775808 : Int) ≤ intV b.bits ∧ intV b.bits ≤ 9223372036854775807; omega⟩) (.inl rfl) (fun k45 x45 o45 h45 => ?_) (fun k45 => ?_)
    rotate_left
    · skip
      refine thenQ.p (blkQ.p (thenQ.p ?_))
      exact ⟨_, selP [.k, .k] _, _, rfl, rfl, sel_perm [.k, .k] _, PlR.er (by rw [pe9, if_neg (by simp [kindsB] at k28; omega), if_neg (by simpa using k39)]; exact getE_er k45) k45⟩
    obtain ⟨rfl, rfl⟩ := h45
    exact JL.store_boxF 0 ty26 (.tmp rfl) rfl (.tmp rfl) rfl vl rfl rfl (Zn (J.ret (blkQ.r (thenQ.r (Zr [.k, .k] (RetEv.one rfl (REv.cell 0 ty26 rfl rfl (take_at vl rfl) vl (V.le_tf _))) rfl (PlR.ok (by rw [pe9, if_neg (by simp [kindsB] at k28; omega), if_neg (by simpa using k39)]; exact getE_ok k45)))))))
  have n9 : ¬ o = 9 := by simpa using c2
  refine Zs (Zq rfl (QW.eql (.tmp rfl) .const) (Zq rfl (QW.assign (.tmp rfl)) (Zn ?_)))
  refine J.cond (.tmp rfl) (fun c3 => ?_) (fun c3 => ?_)
  · skip
    obtain rfl : o = 10 := by simpa using c3
    obtain ⟨a, rfl⟩ := one_of (l := l) (by omega)
    have ha := hl a (by simp)
    have ha32 := ha.len
    have hat := partOk_txt ha.fine.part
    refine Zs (Zq rfl (QW.move (.tmp rfl)) (Zq rfl (QW.index_sl sl24 ty26 rfl (.tmp rfl) .const rfl rfl) (Zq rfl (QW.field_ref fo26_0 (.tmp rfl) rfl) (Zq rfl (QW.load_ref1 ty3 (.tmp rfl) (V.cs_0 _ _)) (Zq rfl (QW.geq (.tmp rfl) .const) ?_)))))
    refine JL.callPF [] gofn95 rfl Lent.nil (fun _ => (.cons (.tmp rfl) (.cons .const .nil))) (nd_ok _ _) (.inl rfl) (fun k53 x53 o53 h53 => ?_) (fun k53 => ?_)
    rotate_left
    · skip
      refine thenQ.p (blkQ.p (thenQ.p ?_))
      exact ⟨_, selP [.k, .k] _, _, rfl, rfl, sel_perm [.k, .k] _, PlR.er (c := 81) ((pe10 t a).trans (if_pos (by simp at k53; omega))) (by decide)⟩
    obtain ⟨rfl, rfl⟩ := h53
    refine Zn (J.seq (J.regionX mixed (Zf 0 [] rfl (fun _ => QW.move (.tmp rfl)) (Zf 1 [55] rfl (fun _ => QW.index_sl sl24 ty26 rfl (.tmp rfl) .const rfl rfl) (Zf 2 [56] rfl (fun _ => QW.field_ref fo26_2 (.tmp rfl) rfl) (Zf 3 [57] rfl (fun _ => QW.load_ref1 ty9 (.tmp rfl) (V.cs_2 _ _)) (Zf 4 [58] rfl (fun _ => QW.len_s st9 (.tmp rfl)) (Zf 5 [] rfl (fun _ => QW.move (.tmp rfl)) (Zf 6 [60] rfl (fun _ => QW.index_sl sl24 ty26 rfl (.tmp rfl) .const rfl rfl) ?_)))))))))
    refine Zf 7 [61] rfl (fun _ => QW.field_ref fo26_4 (.tmp rfl) rfl) (Zf 8 [62] rfl (fun _ => QW.load_ref1 ty24 (.tmp rfl) (V.cs_4 _ _)) (Zf 9 [63] rfl (fun _ => QW.len_slE sl24 (.tmp rfl) wl) (Zf 10 [59, 64] rfl (fun _ => QW.add (.tmp rfl) (.tmp rfl) (w64 (by omega))) (Zf 11 [65] rfl (fun _ => QW.call gofn127 (.cons (.tmp rfl) .nil) (ofInt_ok _ (by omega))) (Zf 12 [66] rfl (fun _ => QW.move (.tmp rfl)) (Zf 13 [54] rfl (fun _ => QW.extract (.tmp rfl) rfl) (Zf 14 [54] rfl (fun _ => QW.extract (.tmp rfl) rfl) (Zf 15 [67] rfl (fun _ => QW.assign (.tmp rfl)) (Zf 16 [68] rfl (fun _ => QW.assign (.tmp rfl)) ?_)))))))))
    refine JX.fin (by kernel_rfl) (by kernel_rfl) fun bs_ => ?_
    refine QX.conv (by (try simp only [vlF, bxF, tkM, lvM, Flt.val, Flt.bx, nx, nl, stepsO, valO, nthO, curO, mrg, AV.cellsOf, splice_zero, splice_succ, Nat.reduceAdd]); rfl) ?_
    exact thenQ.n (Zs (Zq rfl (QW.move (.tmp rfl)) (Zq rfl (QW.call gofn97 (.cons (.tmp rfl) .nil) (nof_ok _)) (JL.store_boxF 0 ty26 (.tmp rfl) rfl (.tmp rfl) rfl rfl rfl rfl (Zn (J.ret (blkQ.r (thenQ.r (Zr [.k, .k] (RetEv.one rfl (REv.cell 0 ty26 rfl rfl rfl rfl lr)) rfl (PlR.ok ((pe10 t a).trans (if_neg (by simp at k53; omega)))))))))))))
  have n10 : ¬ o = 10 := by simpa using c3
  refine Zs (Zq rfl (QW.eql (.tmp rfl) .const) (Zq rfl (QW.assign (.tmp rfl)) (Zn ?_)))
  refine J.cond (.tmp rfl) (fun c4 => ?_) (fun c4 => ?_)
  · skip
    obtain rfl : o = 23 := by simpa using c4
    refine Zs (Zq rfl (QW.move (.tmp rfl)) (Zq rfl (QW.build (idx := [0, 4]) pl26 z26 rfl (.cons .const (.cons (.tmp rfl) .nil)) rfl rfl rfl rfl) ?_))
    refine JL.callPF [] gofn109 rfl Lent.nil (fun _ => (.cons (Ev.le (.tmp rfl) (.aggL (.cons lr (.cons lr (.cons lr (.cons (.nil false false _) (.cons lr .nil))))))) .nil)) (made_ok (fr := false) (v := .li l) Vc.self (li_wf hl hn8)) (.inl rfl) (fun k75 x75 o75 h75 => ?_) (fun k75 => ?_)
    rotate_left
    · skip
      refine thenQ.p (blkQ.p (thenQ.p ?_))
      exact ⟨_, selP [.k, .k] _, _, rfl, rfl, sel_perm [.k, .k] _, PlR.er (c := 84) ((pe23 t l).trans (if_neg k75)) (by decide)⟩
    obtain ⟨rfl, rfl⟩ := h75
    exact JL.store_boxF 0 ty26 (.tmp rfl) rfl (.tmp rfl) rfl rfl rfl rfl (Zn (J.ret (blkQ.r (thenQ.r (Zr [.k, .k] (RetEv.one rfl (REv.cell 0 ty26 rfl rfl rfl rfl lr)) rfl (PlR.ok (v := .li l) ((pe23 t l).trans (if_pos k75))))))))
  have n23 : ¬ o = 23 := by simpa using c4
  refine Zs (Zq rfl (QW.eql (.tmp rfl) .const) (Zq rfl (QW.assign (.tmp rfl)) (Zn ?_)))
  refine J.cond (.tmp rfl) (fun c5 => ?_) (fun c5 => ?_)
  · skip
    obtain rfl : o = 24 := by simpa using c5
    obtain ⟨a, b, rfl⟩ := two_of (l := l) (by omega)
    have ha := hl a (by simp)
    have hb := hl b (by simp)
    have ha32 := ha.len
    refine Zs (Zq rfl (QW.move (.tmp rfl)) (Zq rfl (QW.buildSlice (idx := [0]) (xs := intsAV [4]) sl177 el3 z3 rfl (.cons .const .nil) rfl rfl rfl rfl rfl rfl rfl rfl rfl) ?_))
    refine JL.callPF [] gofn110 rfl Lent.nil (fun _ => (.cons (.tmp rfl) (.cons (.tmp rfl) .nil))) (kinds_ok _ [4] (by simp) (by simp)) (.inl rfl) (fun k80 x80 o80 h80 => ?_) (fun k80 => ?_)
    rotate_left
    · skip
      refine thenQ.p (blkQ.p (thenQ.p ?_))
      exact ⟨_, selP [.k, .k] _, _, rfl, rfl, sel_perm [.k, .k] _, PlR.er (c := 81) ((pe24 t a b).trans (if_pos (by simpa [kindsB] using k80))) (by decide)⟩
    obtain ⟨rfl, rfl⟩ := h80
    refine Zn (J.seq (J.regionX mixed (Zf 0 [] rfl (fun _ => QW.move (.tmp rfl)) (Zf 1 [82] rfl (fun _ => QW.index_sl sl24 ty26 rfl (.tmp rfl) .const rfl rfl) (Zf 2 [83] rfl (fun _ => QW.load_ref ty26 (.tmp rfl) (take_at0 vl rfl) vl) (Zf 3 [] rfl (fun _ => QW.move (.tmp rfl)) (Zf 4 [85] rfl (fun _ => QW.index_sl sl24 ty26 rfl (.tmp rfl) .const rfl rfl) (Zf 5 [86] rfl (fun _ => QW.field_ref fo26_4 (.tmp rfl) rfl) (Zf 6 [87] rfl (fun _ => QW.load_ref1 ty24 (.tmp rfl) (V.cs_4 _ _)) ?_)))))))))
    refine Zf 7 [88] rfl (fun _ => QW.len_slE sl24 (.tmp rfl) wl) (Zf 8 [89] rfl (fun _ => QW.build (idx := [2]) pl66 z66 rfl (.cons (.tmp rfl) .nil) rfl rfl rfl rfl) (Zf 9 [90] rfl (fun _ => QW.buildSlice (idx := [0]) (xs := StT.css [⟨false, [], (a.items.length : Int)⟩]) sl67 el66 z66 rfl (.cons (.tmp rfl) .nil) rfl rfl rfl rfl rfl rfl rfl rfl rfl) (Zf 10 [] rfl (fun _ => QW.move (.tmp rfl)) (Zf 11 [92] rfl (fun _ => QW.index_sl sl24 ty26 rfl (.tmp rfl) .const rfl rfl) (Zf 12 [93] rfl (fun _ => QW.load_ref ty26 (.tmp rfl) (take_at0 vl rfl) vl) (Zf 13 [84, 91, 94] rfl (fun _ => QW.call gofn64 (.cons (.tmp rfl) (.cons (.tmp rfl) (.cons (.tmp rfl) .nil))) (set_ok (v := a) (x := b) (p := [⟨false, [], a.items.length⟩]) Vc.self Vc.self ha.wf hb.wf (step_wf ⟨by unfold reach; simp, by show (-9223372036854775808 : Int) ≤ (a.items.length : Int) ∧ (a.items.length : Int) ≤ 9223372036854775807; omega⟩))) ?_))))))
    refine Zf 14 [95] rfl (fun _ => QW.move (.tmp rfl)) (Zf 15 [81] rfl (fun _ => QW.extract (.tmp rfl) rfl) (Zf 16 [81] rfl (fun _ => QW.extract (.tmp rfl) rfl) (JX.a 17 rfl (AllocOp.mk z26 rfl) rfl rfl rfl rfl rfl (JX.one 18 [true, false, true, true, true, true, true, true, true, true, true, true, true, true, true, true, true, true] rfl (by kernel_rfl) (by kernel_rfl) rfl rfl (by kernel_rfl) rfl fun bs18_ pe_ ex_ => ?_))))
    refine JL.conv (by (try simp only [vlF, bxF, tkM, lvM, Flt.val, Flt.bx, nx, nl, stepsO, valO, nthO, curO, mrg, AV.cellsOf, splice_zero, splice_succ, Nat.reduceAdd]); rfl) ?_
    refine JL.store_boxF 2 ty26 (.tmp rfl) rfl (.tmp rfl) rfl vl rfl rfl (JL.nil ?_)
    refine thenQ.n ⟨[], _, rfl, rfl, rfl, rfl, rfl, Reown.tkN 3 rfl, trivial, ⟨trivial, trivial⟩, ?_⟩
    refine JX.conv (S' := [18, 17, 15, 14, 13, 12, 11, 10, 9, 8, 7, 6, 5, 4, 3, 2, 1, 0]) rfl (by (try simp only [lvM]); rfl) (by (try simp only [vlF, bxF, tkM, lvM, Flt.val, Flt.bx, nx, nl, stepsO, valO, nthO, curO, mrg, AV.cellsOf, splice_zero, splice_succ, Nat.reduceAdd]); rfl) ?_
    refine Zf 19 [97] rfl (fun _ => QW.assign (.tmp rfl)) (JX.fin (by kernel_rfl) (by kernel_rfl) fun bs_ => ?_)
    refine QX.conv (by (try simp only [vlF, bxF, tkM, lvM, Flt.val, Flt.bx, nx, nl, stepsO, valO, nthO, curO, mrg, AV.cellsOf, splice_zero, splice_succ, Nat.reduceAdd]); rfl) ?_
    refine thenQ.n (Zs (Zq rfl (QW.move (.tmp rfl)) (Zq rfl (QW.eql (.tmp rfl) .const) ?_)))
    refine JL.callPF [] gofn95 rfl Lent.nil (fun _ => (.cons (.tmp rfl) (.cons .const .nil))) (nd_ok _ _) (.inl rfl) (fun k100 x100 o100 h100 => ?_) (fun k100 => ?_)
    rotate_left
    · skip
      refine thenQ.p (blkQ.p (thenQ.p ?_))
      exact ⟨_, selP [.k, .k, .k] _, _, rfl, rfl, sel_perm [.k, .k, .k] _, PlR.er (c := 84) (by rw [pe24, if_neg (by simpa [kindsB] using k80)]; exact setE_er (by simpa using k100)) (by decide)⟩
    obtain ⟨rfl, rfl⟩ := h100
    exact Zn (Zs (Zq rfl (QW.load_box 2 ty26 (.tmp rfl) rfl (take_at vl rfl) vl) (JL.store_boxF 0 ty26 (.tmp rfl) rfl (.tmp rfl) rfl vl rfl rfl (Zn (J.ret (blkQ.r (thenQ.r (Zr [.k, .k, .k] (RetEv.one rfl (REv.cell 0 ty26 rfl rfl (take_at vl rfl) vl (V.le_tf _))) rfl (PlR.ok (by rw [pe24, if_neg (by simpa [kindsB] using k80)]; exact setE_ok (by simpa using k100)))))))))))
  have n24 : ¬ o = 24 := by simpa using c5
  obtain rfl : o = 25 := by omega
  obtain ⟨a, b, rfl⟩ := two_of (l := l) (by omega)
  have ha := hl a (by simp)
  have hb := hl b (by simp)
  refine J.skip (blkQ.n (thenQ.n (Zs (Zq rfl (QW.move (.tmp rfl)) (Zq rfl (QW.buildSlice (idx := [0]) (xs := intsAV [5]) sl177 el3 z3 rfl (.cons .const .nil) rfl rfl rfl rfl rfl rfl rfl rfl rfl) ?_)))))
  refine JL.callPF [] gofn110 rfl Lent.nil (fun _ => (.cons (.tmp rfl) (.cons (.tmp rfl) .nil))) (kinds_ok _ [5] (by simp) (by simp)) (.inl rfl) (fun k104 x104 o104 h104 => ?_) (fun k104 => ?_)
  rotate_left
  · skip
    refine thenQ.p ?_
    exact ⟨_, selP [.k, .k] _, _, rfl, rfl, sel_perm [.k, .k] _, PlR.er (c := 81) ((pe25 t a b).trans (if_pos (by simpa [kindsB] using k104))) (by decide)⟩
  obtain ⟨rfl, rfl⟩ := h104
  refine Zn (J.seq (J.regionX mixed (Zf 0 [] rfl (fun _ => QW.move (.tmp rfl)) (Zf 1 [106] rfl (fun _ => QW.index_sl sl24 ty26 rfl (.tmp rfl) .const rfl rfl) (Zf 2 [107] rfl (fun _ => QW.load_ref ty26 (.tmp rfl) (take_at0 vl rfl) vl) (Zf 3 [] rfl (fun _ => QW.field_ptr fo79_2 (.tmp rfl) rfl) (Zo 4 1 [109] rfl (fun _ ho_ => QW.load_box1 1 ty9 (.tmp rfl) ho_ rfl) (Zf 5 [110] rfl (fun _ => QW.build (idx := [0, 1]) pl66 z66 rfl (.cons .const (.cons (.tmp rfl) .nil)) rfl rfl rfl rfl) (Zf 6 [111] rfl (fun _ => QW.buildSlice (idx := [0]) (xs := StT.css [⟨true, t, 0⟩]) sl67 el66 z66 rfl (.cons (.tmp rfl) .nil) rfl rfl rfl rfl rfl rfl rfl rfl rfl) ?_)))))))))
  refine Zf 7 [] rfl (fun _ => QW.move (.tmp rfl)) (Zf 8 [113] rfl (fun _ => QW.index_sl sl24 ty26 rfl (.tmp rfl) .const rfl rfl) (Zf 9 [114] rfl (fun _ => QW.load_ref ty26 (.tmp rfl) (take_at0 vl rfl) vl) (Zf 10 [108, 112, 115] rfl (fun _ => QW.call gofn64 (.cons (.tmp rfl) (.cons (.tmp rfl) (.cons (.tmp rfl) .nil))) (set_ok (v := a) (x := b) (p := [⟨true, t, 0⟩]) Vc.self Vc.self ha.wf hb.wf (step_wf ⟨ht, show (-9223372036854775808 : Int) ≤ 0 ∧ (0 : Int) ≤ 9223372036854775807 by decide⟩))) ?_)))
  refine Zf 11 [116] rfl (fun _ => QW.move (.tmp rfl)) (Zf 12 [105] rfl (fun _ => QW.extract (.tmp rfl) rfl) (Zf 13 [105] rfl (fun _ => QW.extract (.tmp rfl) rfl) (JX.a 14 rfl (AllocOp.mk z26 rfl) rfl rfl rfl rfl rfl (JX.one 15 [true, false, true, true, true, true, true, true, true, true, true, true, true, true, true] rfl (by kernel_rfl) (by kernel_rfl) rfl rfl (by kernel_rfl) rfl fun bs15_ pe_ ex_ => ?_))))
  refine JL.conv (by (try simp only [vlF, bxF, tkM, lvM, Flt.val, Flt.bx, nx, nl, stepsO, valO, nthO, curO, mrg, AV.cellsOf, splice_zero, splice_succ, Nat.reduceAdd]); rfl) ?_
  refine JL.store_boxF 2 ty26 (.tmp rfl) rfl (.tmp rfl) rfl vl rfl rfl (JL.nil ?_)
  refine thenQ.n ⟨[], _, rfl, rfl, rfl, rfl, rfl, Reown.tkN 3 rfl, trivial, ⟨trivial, trivial⟩, ?_⟩
  refine JX.conv (S' := [15, 14, 12, 11, 10, 9, 8, 7, 6, 5, 4, 3, 2, 1, 0]) rfl (by (try simp only [lvM]); rfl) (by (try simp only [vlF, bxF, tkM, lvM, Flt.val, Flt.bx, nx, nl, stepsO, valO, nthO, curO, mrg, AV.cellsOf, splice_zero, splice_succ, Nat.reduceAdd]); rfl) ?_
  refine Zf 16 [118] rfl (fun _ => QW.assign (.tmp rfl)) (JX.fin (by kernel_rfl) (by kernel_rfl) fun bs_ => ?_)
  refine QX.conv (by (try simp only [vlF, bxF, tkM, lvM, Flt.val, Flt.bx, nx, nl, stepsO, valO, nthO, curO, mrg, AV.cellsOf, splice_zero, splice_succ, Nat.reduceAdd]); rfl) ?_
  refine thenQ.n (Zs (Zq rfl (QW.move (.tmp rfl)) (Zq rfl (QW.eql (.tmp rfl) .const) ?_)))
  refine JL.callPF [] gofn95 rfl Lent.nil (fun _ => (.cons (.tmp rfl) (.cons .const .nil))) (nd_ok _ _) (.inl rfl) (fun k121 x121 o121 h121 => ?_) (fun k121 => ?_)
  rotate_left
  · skip
    refine thenQ.p ?_
    exact ⟨_, selP [.k, .k, .k] _, _, rfl, rfl, sel_perm [.k, .k, .k] _, PlR.er (c := 84) (by rw [pe25, if_neg (by simpa [kindsB] using k104)]; exact setE_er (by simpa using k121)) (by decide)⟩
  obtain ⟨rfl, rfl⟩ := h121
  exact Zn (Zs (Zq rfl (QW.load_box 2 ty26 (.tmp rfl) rfl (take_at vl rfl) vl) (JL.store_boxF 0 ty26 (.tmp rfl) rfl (.tmp rfl) rfl vl rfl rfl (Zn (J.ret (Zr [.k, .k, .k] (RetEv.one rfl (REv.cell 0 ty26 rfl rfl (take_at vl rfl) vl (V.le_tf _))) rfl (PlR.ok (by rw [pe25, if_neg (by simpa [kindsB] using k104)]; exact setE_ok (by simpa using k121)))))))))
end Go.Proofs.YtmccnmahegbmpaaGreat.J

/- Walks: the page sets a part of a value. -/
namespace Go.Proofs.YtmccnmahegbmpaaGreat.J
open Go Go.RowKit
set_option maxRecDepth 10000
set_option maxHeartbeats 4000000
end Go.Proofs.YtmccnmahegbmpaaGreat.J

/- Walks: the page sets a part of a value by a path. -/
namespace Go.Proofs.YtmccnmahegbmpaaGreat.J
open Go Go.RowKit
set_option maxRecDepth 10000
set_option maxHeartbeats 4000000
end Go.Proofs.YtmccnmahegbmpaaGreat.J

/- Walks: orders of numbers, texts, lists. -/
namespace Go.Proofs.YtmccnmahegbmpaaGreat.J
open Go Go.RowKit
set_option maxRecDepth 10000
set_option maxHeartbeats 4000000
theorem cmpI_ok (a b : Int) : Fn Tryz.prog 137 [.c (.int .i64 a), .c (.int .i64 b)] (.c (.int .i64 (cmpI a b))) := cmpInt_ok a b
theorem cmpK_drop {a b : List Str} {k : Nat} (ha : k < a.length) (hb : k < b.length) : cmpK (a.drop k) (b.drop k) = orI (cmpS a[k] b[k]) (cmpK (a.drop (k + 1)) (b.drop (k + 1))) := by
  rw [List.drop_eq_getElem_cons ha, List.drop_eq_getElem_cons hb, cmpK]
theorem cmpK_gt {a b : List Str} {k : Nat} (ha : k < a.length) (hb : b.length ≤ k) : cmpK (a.drop k) (b.drop k) = 1 := by
  rw [List.drop_eq_getElem_cons ha, List.drop_of_length_le hb, cmpK]
theorem cmpK_lt {a b : List Str} {k : Nat} (ha : a.length ≤ k) (hb : k < b.length) : cmpK (a.drop k) (b.drop k) = -1 := by
  rw [List.drop_eq_getElem_cons hb, List.drop_of_length_le ha, cmpK]
theorem cmpK_eq {a b : List Str} {k : Nat} (ha : a.length ≤ k) (hb : b.length ≤ k) : cmpK (a.drop k) (b.drop k) = 0 := by
  rw [List.drop_of_length_le hb, List.drop_of_length_le ha, cmpK]
theorem ords_drop {a b : List V} {k : Nat} (ha : k < a.length) (hb : k < b.length) : V.ords (a.drop k) (b.drop k) = orI (a[k].ord b[k]) (V.ords (a.drop (k + 1)) (b.drop (k + 1))) := by
  rw [List.drop_eq_getElem_cons ha, List.drop_eq_getElem_cons hb, V.ords]
theorem ords_gt {a b : List V} {k : Nat} (ha : k < a.length) (hb : b.length ≤ k) : V.ords (a.drop k) (b.drop k) = 1 := by
  rw [List.drop_eq_getElem_cons ha, List.drop_of_length_le hb, V.ords]
theorem ords_lt {a b : List V} {k : Nat} (ha : a.length ≤ k) (hb : k < b.length) : V.ords (a.drop k) (b.drop k) = -1 := by
  rw [List.drop_eq_getElem_cons hb, List.drop_of_length_le ha, V.ords]
theorem ords_eq {a b : List V} {k : Nat} (ha : a.length ≤ k) (hb : b.length ≤ k) : V.ords (a.drop k) (b.drop k) = 0 := by
  rw [List.drop_of_length_le hb, List.drop_of_length_le ha, V.ords]
theorem orI_n {a b : Int} (h : a ≠ 0) : orI a b = a := if_pos h
theorem orI_z {b : Int} : orI 0 b = b := if_neg (fun h => h rfl)
def orL : List Int → Int
  | [] => 0
  | x :: r => orI x (orL r)
theorem orL_drop {l : List Int} {k : Nat} (h : k < l.length) : orL (l.drop k) = orI l[k] (orL (l.drop (k + 1))) := by
  rw [List.drop_eq_getElem_cons h, orL]
theorem orL_end {l : List Int} {k : Nat} (h : l.length ≤ k) : orL (l.drop k) = 0 := by rw [List.drop_of_length_le h, orL]
theorem orL_one (a : Int) : orL [a] = a := by simp only [orL, orI]; split <;> omega
theorem nanU_ok (n : Int) : Fn Tryz.prog 151 [.c (.int .u64 n)] (.c (.bool false)) := by
  refine AC.of_J Tryz.func151 rfl Tryz.ntmps151 rfl fun w0 A0 => ?_
  exact Zs (Zq rfl (QW.assign .const) (Zn (Zs (Zq rfl (QW.move (.tmp rfl)) (Zq rfl (QW.move (.tmp rfl)) (Zq rfl (QW.neq (.tmp rfl) (.tmp rfl)) (Zq rfl (QW.assign (.tmp rfl)) (Zn (J.ret (Zr [] (RetEv.one rfl (REv.tmp rfl lr)) rfl ⟨ret_b (by simp), rfl⟩))))))))))
theorem cmpU_ok (a b : Int) : Fn Tryz.prog 140 [.c (.int .u64 a), .c (.int .u64 b)] (.c (.int .i64 (cmpI a b))) := by
  refine AC.of_J Tryz.func140 rfl Tryz.ntmps140 rfl fun w0 A0 => ?_
  refine Zs (Zq rfl (QW.assign .const) (Zn (Zs (Zq rfl (QW.move (.tmp rfl)) (Zq rfl (QW.call gofn151 (.cons (.tmp rfl) .nil) (nanU_ok _)) (Zq rfl (QW.assign (.tmp rfl)) (Zn (Zs (Zq rfl (QW.move (.tmp rfl)) ?_)))))))))
  refine Zq rfl (QW.call gofn151 (.cons (.tmp rfl) .nil) (nanU_ok _)) (Zq rfl (QW.assign (.tmp rfl)) (Zn (J.seq (Zs (Zq rfl (QW.move (.tmp rfl)) (Zn ?_))))))
  refine J.cond (.tmp rfl) (fun c1 => absurd c1 (by simp)) (fun c1 => ?_)
  refine Zk (J.seq (Zs (Zq rfl (QW.move (.tmp rfl)) (Zn ?_))))
  refine J.cond (.tmp rfl) (fun c2 => absurd c2 (by simp)) (fun c2 => ?_)
  refine Zk (J.seq (Zs (Zq rfl (QW.move (.tmp rfl)) (Zq rfl (QW.move (.tmp rfl)) (Zq rfl (QW.lss (.tmp rfl) (.tmp rfl)) (Zn ?_))))))
  refine J.cond (.tmp rfl) (fun c3 => ?_) (fun c3 => ?_)
  · skip
    simp at c3
    exact Zs (Zq rfl (QW.assign .const) (Zn (J.ret (thenQ.r (Zr [] (RetEv.one rfl (REv.tmp rfl lr)) rfl ⟨by rw [show cmpI a b = -1 from if_pos c3], rfl⟩)))))
  simp at c3
  refine Zk (J.seq (Zs (Zq rfl (QW.move (.tmp rfl)) (Zq rfl (QW.move (.tmp rfl)) (Zq rfl (QW.gtr (.tmp rfl) (.tmp rfl)) (Zn ?_))))))
  refine J.cond (.tmp rfl) (fun c4 => ?_) (fun c4 => ?_)
  · skip
    simp at c4
    exact Zs (Zq rfl (QW.assign .const) (Zn (J.ret (thenQ.r (Zr [] (RetEv.one rfl (REv.tmp rfl lr)) rfl ⟨by rw [show cmpI a b = 1 by unfold cmpI; rw [if_neg (by omega), if_pos (by omega)]], rfl⟩)))))
  simp at c4
  exact Zk (Zs (Zq rfl (QW.assign .const) (Zn (J.ret (Zr [] (RetEv.one rfl (REv.tmp rfl lr)) rfl ⟨by rw [show cmpI a b = 0 by unfold cmpI; rw [if_neg (by omega), if_neg (by omega)]], rfl⟩)))))
theorem cmpStr_ok (a b : Str) : Fn Tryz.prog 141 [.c (str a), .c (str b)] (.c (.int .i64 (cmpS a b))) := by
  refine AC.of_J Tryz.func141 rfl Tryz.ntmps141 rfl fun w0 A0 => ?_
  refine Zs (Zq rfl (QW.assign .const) (Zn (Zs (Zq rfl (QW.move (.tmp rfl)) (Zq rfl (QW.call gofn72 (.cons (.tmp rfl) .nil) (cnanStr_ok _)) (Zq rfl (QW.assign (.tmp rfl)) (Zn (Zs (Zq rfl (QW.move (.tmp rfl)) ?_)))))))))
  refine Zq rfl (QW.call gofn72 (.cons (.tmp rfl) .nil) (cnanStr_ok _)) (Zq rfl (QW.assign (.tmp rfl)) (Zn (J.seq (Zs (Zq rfl (QW.move (.tmp rfl)) (Zn ?_))))))
  refine J.cond (.tmp rfl) (fun c1 => absurd c1 (by simp)) (fun c1 => ?_)
  refine Zk (J.seq (Zs (Zq rfl (QW.move (.tmp rfl)) (Zn ?_))))
  refine J.cond (.tmp rfl) (fun c2 => absurd c2 (by simp)) (fun c2 => ?_)
  refine Zk (J.seq (Zs (Zq rfl (QW.move (.tmp rfl)) (Zq rfl (QW.move (.tmp rfl)) (Zq rfl (QW.lss_s (.tmp rfl) (.tmp rfl)) (Zn ?_))))))
  refine J.cond (.tmp rfl) (fun c3 => ?_) (fun c3 => ?_)
  · skip
    exact Zs (Zq rfl (QW.assign .const) (Zn (J.ret (thenQ.r (Zr [] (RetEv.one rfl (REv.tmp rfl lr)) rfl ⟨by simp [cmpS, c3], rfl⟩)))))
  refine Zk (J.seq (Zs (Zq rfl (QW.move (.tmp rfl)) (Zq rfl (QW.move (.tmp rfl)) (Zq rfl (QW.gtr_s (.tmp rfl) (.tmp rfl)) (Zn ?_))))))
  refine J.cond (.tmp rfl) (fun c4 => ?_) (fun c4 => ?_)
  · skip
    exact Zs (Zq rfl (QW.assign .const) (Zn (J.ret (thenQ.r (Zr [] (RetEv.one rfl (REv.tmp rfl lr)) rfl ⟨by rw [gtr_less] at c4; simp [cmpS, c3, c4], rfl⟩)))))
  exact Zk (Zs (Zq rfl (QW.assign .const) (Zn (J.ret (Zr [] (RetEv.one rfl (REv.tmp rfl lr)) rfl ⟨by rw [gtr_less] at c4; simp [cmpS, c3, c4], rfl⟩)))))
theorem or_ok {fr c : Bool} (l : List Int) (hl : l.length ≤ 1000) : Fn Tryz.prog 139 [.sl fr c eI64 (intsAV l)] (.c (.int .i64 (orL l))) := by
  refine AC.of_J Tryz.func139 rfl Tryz.ntmps139 rfl fun w0 A0 => ?_
  refine Zs (Zq rfl (QW.assign .const) (Zn (Zs (Zq rfl (QW.assign .const) (Zn (J.seq (Zs (Zq rfl (QW.move (.tmp rfl)) (Zq rfl (QW.len_slE sl177 (.tmp rfl) (intsAV_length _)) ?_)))))))))
  refine Zq rfl (QW.move .const) (Zn (J.block (J.loopK (ι := Nat) [3, 6, 7] (fun k => [(8, .c (.int .i64 (k : Int)))]) (fun _ oo => oo) (fun k => k ≤ l.length ∧ orL l = orL (l.drop k)) (fun k => l.length - k) 0 (⟨Nat.zero_le _, rfl⟩) (Wk.re (.cons rfl lr (.cons rfl lr (.cons rfl lr (.cons rfl lr .nil)))) (Reown.refl _) (fun _ h => by first | exact h | simp [h])) ?_)))
  intro k ⟨hk, hs⟩
  refine J.conv (by (try simp only [nl, stepsO, valO, nthO, curO, mrg, AV.cellsOf, splice_zero, splice_succ, Nat.reduceAdd]); rfl) ?_
  refine Zs (Zq rfl (QW.lss (.tmp rfl) (.tmp rfl)) (Zn (J.seq ?_)))
  refine J.cond (.tmp rfl) (fun c1 => ?_) (fun c1 => ?_)
  · skip
    have hlt : k < l.length := by simpa using c1
    refine Zk (J.seq (J.block (Zs (Zq rfl (QW.index_sl sl177 ty3 rfl (.tmp rfl) (.tmp rfl) rfl (by exact intsAV_getE hlt)) ?_))))
    refine Zq rfl (QW.load_ref1 ty3 (.tmp rfl) rfl) (Zq rfl (QW.assign (.tmp rfl)) (Zn (Zs (Zq rfl (QW.move (.tmp rfl)) (Zq rfl (QW.move (.tmp rfl)) (Zq rfl (QW.neq (.tmp rfl) (.tmp rfl)) (Zn ?_)))))))
    refine J.cond (.tmp rfl) (fun c2 => ?_) (fun c2 => ?_)
    · skip
      have hz : l[k]'hlt ≠ 0 := by simpa using c2
      exact Zs (Zq rfl (QW.move (.tmp rfl)) (Zq rfl (QW.assign (.tmp rfl)) (Zn (J.ret (blkQ.r (thenQ.r (thenQ.r (blkQ.r (thenQ.r (Zr [] (RetEv.one rfl (REv.tmp rfl lr)) rfl ⟨by rw [hs, orL_drop hlt, orI_n hz], rfl⟩))))))))))
    have hz : l[k]'hlt = 0 := by simpa using c2
    refine J.skip (blkQ.n (thenQ.n (J.region_lit (Zq rfl (QW.add (.tmp rfl) .const (w64 (by omega))) (Zq rfl (QW.move (.tmp rfl)) (Zn ?_))))))
    exact ⟨k + 1, ⟨hlt, by rw [hs, orL_drop hlt, hz, orI_z]⟩, by omega, Wk.re (.cons rfl lr (.cons rfl lr (.cons rfl lr (.cons rfl lr .nil)))) (Reown.refl _) (fun _ h => by first | exact h | simp [h])⟩
  have hge : l.length ≤ k := by simpa using c1
  exact J.exit (thenQ.x (thenQ.x (blkQ.hit (thenQ.n (Zs (Zq rfl (QW.move (.tmp rfl)) (Zq rfl (QW.assign (.tmp rfl)) (Zn (J.ret (Zr [] (RetEv.one rfl (REv.tmp rfl lr)) rfl ⟨by rw [hs, orL_end hge], rfl⟩))))))))))
theorem cmpKeys_ok {fr fr2 cl cl2 : Bool} (a b : List Str) (ha : a.length ≤ 8796093022208) (hb : b.length ≤ 8796093022208) : Fn Tryz.prog 142 [.sl fr cl eStr (keysAV a), .sl fr2 cl2 eStr (keysAV b)] (.c (.int .i64 (cmpK a b))) := by
  refine AC.of_J Tryz.func142 rfl Tryz.ntmps142 rfl fun w0 A0 => ?_
  refine Zs (Zq rfl (QW.assign .const) (Zn (J.seq (Zs (Zq rfl (QW.move (.tmp rfl)) (Zq rfl (QW.len_slE sl23 (.tmp rfl) (keysAV_length _)) (Zq rfl (QW.move .const) (Zn (J.block ?_)))))))))
  refine J.loopK (ι := Nat) [0, 1, 9, 10] (fun k => [(11, .c (.int .i64 (k : Int)))]) (fun _ oo => oo) (fun k => k ≤ a.length ∧ k ≤ b.length ∧ cmpK a b = cmpK (a.drop k) (b.drop k)) (fun k => a.length - k) 0 (⟨Nat.zero_le _, Nat.zero_le _, rfl⟩) (Wk.re (.cons rfl lr (.cons rfl lr (.cons rfl lr (.cons rfl lr (.cons rfl lr .nil))))) (Reown.refl _) (fun _ h => by first | exact h | simp [h])) ?_
  intro k ⟨hk, hk2, hs⟩
  refine J.conv (by (try simp only [nl, stepsO, valO, nthO, curO, mrg, AV.cellsOf, splice_zero, splice_succ, Nat.reduceAdd]); rfl) ?_
  refine Zs (Zq rfl (QW.lss (.tmp rfl) (.tmp rfl)) (Zn (J.seq ?_)))
  refine J.cond (.tmp rfl) (fun c1 => ?_) (fun c1 => ?_)
  · skip
    have hlt : k < a.length := by simpa using c1
    refine Zk (J.seq (J.block (Zs (Zq rfl (QW.move (.tmp rfl)) (Zq rfl (QW.index_sl sl23 ty9 rfl (.tmp rfl) (.tmp rfl) rfl (keysAV_getE hlt)) (Zq rfl (QW.load_ref1 ty9 (.tmp rfl) rfl) (Zq rfl (QW.assign (.tmp rfl)) (Zq rfl (QW.assign (.tmp rfl)) (Zn ?_)))))))))
    refine J.seq (Zs (Zq rfl (QW.move (.tmp rfl)) (Zq rfl (QW.move (.tmp rfl)) (Zq rfl (QW.len_slE sl23 (.tmp rfl) (keysAV_length _)) (Zq rfl (QW.geq (.tmp rfl) (.tmp rfl)) (Zn ?_))))))
    refine J.cond (.tmp rfl) (fun c2 => ?_) (fun c2 => ?_)
    · skip
      have hg2 : b.length ≤ k := by simpa using c2
      exact Zs (Zq rfl (QW.assign .const) (Zn (J.ret (thenQ.r (blkQ.r (thenQ.r (thenQ.r (blkQ.r (thenQ.r (Zr [] (RetEv.one rfl (REv.tmp rfl lr)) rfl ⟨by rw [hs, cmpK_gt hlt hg2], rfl⟩))))))))))
    have hlt2 : k < b.length := by simpa using c2
    refine Zk (Zs (Zq rfl (QW.move (.tmp rfl)) (Zq rfl (QW.move (.tmp rfl)) (Zq rfl (QW.index_sl sl23 ty9 rfl (.tmp rfl) (.tmp rfl) rfl (keysAV_getE hlt2)) (Zq rfl (QW.load_ref1 ty9 (.tmp rfl) rfl) (Zq rfl (QW.assign (.tmp rfl)) (Zn (Zs (Zq rfl (QW.move (.tmp rfl)) ?_)))))))))
    refine Zq rfl (QW.move (.tmp rfl)) (Zq rfl (QW.call gofn141 (.cons (.tmp rfl) (.cons (.tmp rfl) .nil)) (cmpStr_ok _ _)) (Zq rfl (QW.assign (.tmp rfl)) (Zn (Zs (Zq rfl (QW.move (.tmp rfl)) (Zq rfl (QW.neq (.tmp rfl) .const) (Zn ?_)))))))
    refine J.cond (.tmp rfl) (fun c3 => ?_) (fun c3 => ?_)
    · skip
      have hz : cmpS (a[k]'hlt) (b[k]'hlt2) ≠ 0 := by simpa using c3
      exact Zs (Zq rfl (QW.move (.tmp rfl)) (Zq rfl (QW.assign (.tmp rfl)) (Zn (J.ret (blkQ.r (thenQ.r (thenQ.r (blkQ.r (thenQ.r (Zr [] (RetEv.one rfl (REv.tmp rfl lr)) rfl ⟨by rw [hs, cmpK_drop hlt hlt2, orI_n hz], rfl⟩))))))))))
    have hz : cmpS (a[k]'hlt) (b[k]'hlt2) = 0 := by simpa using c3
    refine J.skip (blkQ.n (thenQ.n (J.region_lit (Zq rfl (QW.add (.tmp rfl) .const (w64 (by omega))) (Zq rfl (QW.move (.tmp rfl)) (Zn ?_))))))
    exact ⟨k + 1, ⟨hlt, hlt2, by rw [hs, cmpK_drop hlt hlt2, hz, orI_z]⟩, by omega, Wk.re (.cons rfl lr (.cons rfl lr (.cons rfl lr (.cons rfl lr (.cons rfl lr .nil))))) (Reown.refl _) (fun _ h => by first | exact h | simp [h])⟩
  have hge : a.length ≤ k := by simpa using c1
  refine J.exit (thenQ.x (thenQ.x (blkQ.hit (thenQ.n (J.seq (Zs (Zq rfl (QW.move (.tmp rfl)) (Zq rfl (QW.len_slE sl23 (.tmp rfl) (keysAV_length _)) (Zq rfl (QW.move (.tmp rfl)) ?_)))))))))
  refine Zq rfl (QW.len_slE sl23 (.tmp rfl) (keysAV_length _)) (Zq rfl (QW.lss (.tmp rfl) (.tmp rfl)) (Zn ?_))
  refine J.cond (.tmp rfl) (fun c2 => ?_) (fun c2 => ?_)
  · skip
    have hx : a.length < b.length := by simpa using c2
    exact Zs (Zq rfl (QW.assign .const) (Zn (J.ret (thenQ.r (Zr [] (RetEv.one rfl (REv.tmp rfl lr)) rfl ⟨by rw [hs, cmpK_lt hge (by omega)], rfl⟩)))))
  have hx : b.length ≤ a.length := by simpa using c2
  exact Zk (Zs (Zq rfl (QW.assign .const) (Zn (J.ret (Zr [] (RetEv.one rfl (REv.tmp rfl lr)) rfl ⟨by rw [hs, cmpK_eq hge (by omega)], rfl⟩)))))
theorem cmpVals_ok {fr fr2 cl cl2 : Bool} (a b : List V) (ha : a.length ≤ 8796093022208) (hb : b.length ≤ 8796093022208) (ih : ∀ x ∈ a, ∀ y ∈ b, Fn Tryz.prog 124 [.agg (x.cs fr), .agg (y.cs fr2)] (.c (.int .i64 (x.ord y)))) : Fn Tryz.prog 143 [.sl fr cl eV (V.css fr a), .sl fr2 cl2 eV (V.css fr2 b), .c (.func (.func 124) #[] #[])] (.c (.int .i64 (V.ords a b))) := by
  refine AC.of_J Tryz.func143 rfl Tryz.ntmps143 rfl fun w0 A0 => ?_
  refine Zs (Zq rfl (QW.assign .const) (Zn (J.seq (Zs (Zq rfl (QW.move (.tmp rfl)) (Zq rfl (QW.len_slE sl24 (.tmp rfl) wl) (Zq rfl (QW.move .const) (Zn (J.block ?_)))))))))
  refine J.loopK (ι := Nat) [0, 1, 2, 11, 12] (fun k => [(13, .c (.int .i64 (k : Int)))]) (fun _ oo => oo) (fun k => k ≤ a.length ∧ k ≤ b.length ∧ V.ords a b = V.ords (a.drop k) (b.drop k)) (fun k => a.length - k) 0 (⟨Nat.zero_le _, Nat.zero_le _, rfl⟩) (Wk.re (.cons rfl lr (.cons rfl lr (.cons rfl lr (.cons rfl lr (.cons rfl lr (.cons rfl lr .nil)))))) (Reown.refl _) (fun _ h => by first | exact h | simp [h])) ?_
  intro k ⟨hk, hk2, hs⟩
  refine J.conv (by (try simp only [nl, stepsO, valO, nthO, curO, mrg, AV.cellsOf, splice_zero, splice_succ, Nat.reduceAdd]); rfl) ?_
  refine Zs (Zq rfl (QW.lss (.tmp rfl) (.tmp rfl)) (Zn (J.seq ?_)))
  refine J.cond (.tmp rfl) (fun c1 => ?_) (fun c1 => ?_)
  · skip
    have hlt : k < a.length := by simpa using c1
    refine Zk (J.seq (J.block (Zs (Zq rfl (QW.move (.tmp rfl)) (Zq rfl (QW.index_sl sl24 ty26 rfl (.tmp rfl) (.tmp rfl) rfl (V.css_getE _ hlt)) (Zq rfl (QW.load_ref ty26 (.tmp rfl) (take_at0 vl rfl) vl) (JL.alloc z26 rfl rfl fun b8 => Zq rfl (QW.assign (.tmp rfl)) (JL.store_boxF 0 ty26 (.tmp rfl) rfl (.tmp rfl) rfl vl rfl rfl ?_))))))))
    refine Zn (J.seq (Zs (Zq rfl (QW.move (.tmp rfl)) (Zq rfl (QW.move (.tmp rfl)) (Zq rfl (QW.len_slE sl24 (.tmp rfl) wl) (Zq rfl (QW.geq (.tmp rfl) (.tmp rfl)) (Zn ?_)))))))
    refine J.cond (.tmp rfl) (fun c2 => ?_) (fun c2 => ?_)
    · skip
      have hg2 : b.length ≤ k := by simpa using c2
      exact Zs (Zq rfl (QW.assign .const) (Zn (J.ret (thenQ.r (blkQ.r (thenQ.r (thenQ.r (blkQ.r (thenQ.r (Zr [.k] (RetEv.one rfl (REv.tmp rfl lr)) rfl ⟨by rw [hs, ords_gt hlt hg2], rfl⟩))))))))))
    have hlt2 : k < b.length := by simpa using c2
    refine Zk (Zs (Zq rfl (QW.move (.tmp rfl)) (Zq rfl (QW.move (.tmp rfl)) (Zq rfl (QW.index_sl sl24 ty26 rfl (.tmp rfl) (.tmp rfl) rfl (V.css_getE _ hlt2)) (Zq rfl (QW.load_ref ty26 (.tmp rfl) (take_at0 vl rfl) vl) (JL.alloc z26 rfl rfl fun b9 => JL.store_boxF 0 ty26 (.tmp rfl) rfl (.tmp rfl) rfl vl rfl rfl (Zn (Zs ?_))))))))
    refine Zq rfl (QW.move (.tmp rfl)) (Zq rfl (QW.load_box 1 ty26 (.tmp rfl) rfl (take_at vl rfl) vl) (Zq rfl (QW.load_box 0 ty26 (.tmp rfl) rfl (take_at vl rfl) vl) (Zq rfl (QW.callV gofn124 (.tmp rfl) (.cons (.tmp rfl) (.cons (.tmp rfl) .nil)) rfl (ih _ (List.getElem_mem hlt) _ (List.getElem_mem hlt2))) (Zq rfl (QW.assign (.tmp rfl)) (Zn (Zs (Zq rfl (QW.move (.tmp rfl)) (Zq rfl (QW.neq (.tmp rfl) .const) (Zn ?_)))))))))
    refine J.cond (.tmp rfl) (fun c3 => ?_) (fun c3 => ?_)
    · skip
      have hz : (a[k]'hlt).ord (b[k]'hlt2) ≠ 0 := by simpa using c3
      exact Zs (Zq rfl (QW.move (.tmp rfl)) (Zq rfl (QW.assign (.tmp rfl)) (Zn (J.ret (blkQ.r (thenQ.r (thenQ.r (blkQ.r (thenQ.r (Zr [.k, .k] (RetEv.one rfl (REv.tmp rfl lr)) rfl ⟨by rw [hs, ords_drop hlt hlt2, orI_n hz], rfl⟩))))))))))
    have hz : (a[k]'hlt).ord (b[k]'hlt2) = 0 := by simpa using c3
    refine J.skip (blkQ.n (thenQ.n (J.region_lit (Zq rfl (QW.add (.tmp rfl) .const (w64 (by omega))) (Zq rfl (QW.move (.tmp rfl)) (Zn ?_))))))
    exact ⟨k + 1, ⟨hlt, hlt2, by rw [hs, ords_drop hlt hlt2, hz, orI_z]⟩, by omega, Wk.re (.cons rfl lr (.cons rfl lr (.cons rfl lr (.cons rfl lr (.cons rfl lr (.cons rfl lr .nil)))))) (Reown.dropN 2 _ rfl) (fun _ h => by first | exact h | simp [h])⟩
  have hge : a.length ≤ k := by simpa using c1
  refine J.exit (thenQ.x (thenQ.x (blkQ.hit (thenQ.n (J.seq (Zs (Zq rfl (QW.move (.tmp rfl)) (Zq rfl (QW.len_slE sl24 (.tmp rfl) wl) (Zq rfl (QW.move (.tmp rfl)) ?_)))))))))
  refine Zq rfl (QW.len_slE sl24 (.tmp rfl) wl) (Zq rfl (QW.lss (.tmp rfl) (.tmp rfl)) (Zn ?_))
  refine J.cond (.tmp rfl) (fun c2 => ?_) (fun c2 => ?_)
  · skip
    have hx : a.length < b.length := by simpa using c2
    exact Zs (Zq rfl (QW.assign .const) (Zn (J.ret (thenQ.r (Zr [] (RetEv.one rfl (REv.tmp rfl lr)) rfl ⟨by rw [hs, ords_lt hge (by omega)], rfl⟩)))))
  have hx : b.length ≤ a.length := by simpa using c2
  exact Zk (Zs (Zq rfl (QW.assign .const) (Zn (J.ret (Zr [] (RetEv.one rfl (REv.tmp rfl lr)) rfl ⟨by rw [hs, ords_eq hge (by omega)], rfl⟩)))))
end Go.Proofs.YtmccnmahegbmpaaGreat.J

/- Walks: the order of values. -/
namespace Go.Proofs.YtmccnmahegbmpaaGreat.J
open Go Go.RowKit
set_option maxRecDepth 10000
set_option maxHeartbeats 4000000
theorem vorder_n  : ∀ (n : Nat) {v u : V} {ys zs : List AV} {fr fr2 : Bool}, Vc fr v ys → Vc fr2 u zs → v.wf → u.wf → v.sz ≤ n →
    Fn Tryz.prog 124 [.agg ys, .agg zs] (.c (.int .i64 (v.ord u))) := by
  intro n
  induction n with
  | zero => intro v u ys zs fr fr2 hv hu hw hw2 h; exact absurd h (by have := V.sz_pos v; omega)
  | succ n ih =>
    intro v u ys zs fr fr2 hv hu hw hw2 hn
    obtain ⟨k, b, t, ks, is⟩ := v
    obtain ⟨k', b', t', ks', is'⟩ := u
    subst hv hu
    obtain ⟨-, hb, -, hk16, hi80, -, hwi⟩ := hw.inv
    obtain ⟨-, hb2, -, hk16', hi80', -, hwi'⟩ := hw2.inv
    have h1 : is.length ≤ 8796093022208 := by unfold reach at hi80; omega
    have h2 : is'.length ≤ 8796093022208 := by unfold reach at hi80'; omega
    have h3 : ks.length ≤ 8796093022208 := by unfold reach at hk16; omega
    have h4 : ks'.length ≤ 8796093022208 := by unfold reach at hk16'; omega
    refine AC.of_J Tryz.func124 rfl Tryz.ntmps124 rfl fun w0 A0 => ?_
    refine Zs (JL.box_agg (.tmp rfl) rfl fun b2 => JL.box_agg (.tmp rfl) rfl fun b3 => Zq rfl (QW.assign .const) (Zn (J.seq (Zs (Zq rfl (QW.field_ptr fo26_0 (.tmp rfl) rfl) (Zq rfl (QW.load_box1 1 ty3 (.tmp rfl) rfl rfl) (Zq rfl (QW.field_ptr fo26_0 (.tmp rfl) rfl) ?_)))))))
    refine Zq rfl (QW.load_box1 0 ty3 (.tmp rfl) rfl rfl) (Zq rfl (QW.call gofn137 (.cons (.tmp rfl) (.cons (.tmp rfl) .nil)) (cmpI_ok _ _)) (Zq rfl (QW.assign (.tmp rfl)) (Zn (Zs (Zq rfl (QW.move (.tmp rfl)) (Zq rfl (QW.neq (.tmp rfl) .const) (Zn ?_)))))))
    refine J.cond (.tmp rfl) (fun c1 => ?_) (fun c1 => ?_)
    · skip
      have hz : cmpI k k' ≠ 0 := by simpa using c1
      exact Zs (Zq rfl (QW.move (.tmp rfl)) (Zq rfl (QW.assign (.tmp rfl)) (Zn (J.ret (thenQ.r (Zr [.k, .k] (RetEv.one rfl (REv.tmp rfl lr)) rfl ⟨by simp only [V.ord]; rw [orI_n hz], rfl⟩))))))
    have hz : cmpI k k' = 0 := by simpa using c1
    refine Zk (J.seq (J.regionX mixed (Zf 0 [] rfl (fun _ => QW.field_ptr fo26_1 (.tmp rfl) rfl) (Zo 1 1 [16] rfl (fun _ ho_ => QW.load_box1 1 ty22 (.tmp rfl) ho_ rfl) (Zf 2 [] rfl (fun _ => QW.field_ptr fo26_1 (.tmp rfl) rfl) (Zo 3 0 [18] rfl (fun _ ho_ => QW.load_box1 0 ty22 (.tmp rfl) ho_ rfl) (Zf 4 [17] rfl (fun _ => QW.assign (.tmp rfl)) (Zf 5 [19] rfl (fun _ => QW.assign (.tmp rfl)) (JX.fin (by kernel_rfl) (by kernel_rfl) fun bs_ => ?_)))))))))
    refine QX.conv (by (try simp only [vlF, bxF, tkM, lvM, Flt.val, Flt.bx, nx, nl, stepsO, valO, nthO, curO, mrg, AV.cellsOf, splice_zero, splice_succ, Nat.reduceAdd]); rfl) ?_
    refine thenQ.n (J.cutK (ι := Nat × Nat) [2, 3, 4] (fun ⟨n1, n2⟩ => [(6, .c (.int .u64 (n1 : Int))), (7, .c (.int .u64 (n2 : Int)))]) (fun ⟨n1, n2⟩ oo => oo) (fun ⟨n1, n2⟩ => n1 = V.numb k b ∧ n2 = V.numb k b') ?_ ?_)
    · skip
      refine Zs (Zq rfl (QW.field_ptr fo26_0 (.tmp rfl) rfl) (Zq rfl (QW.load_box1 1 ty3 (.tmp rfl) rfl rfl) (Zq rfl (QW.eql (.tmp rfl) .const) (Zn ?_))))
      refine J.cond (.tmp rfl) (fun c2 => ?_) (fun c2 => ?_)
      · skip
        have hk2 : k = 2 := by simpa using c2
        refine J.region_lit (Zq rfl (QW.move (.tmp rfl)) (Zq rfl (QW.call gofn138 (.cons (.tmp rfl) .nil) (order_ok _ (by assumption))) ?_))
        refine Zq rfl (QW.move (.tmp rfl)) (Zq rfl (QW.call gofn138 (.cons (.tmp rfl) .nil) (order_ok _ (by assumption))) ?_)
        refine Zq rfl (QW.assign (.tmp rfl)) (Zq rfl (QW.assign (.tmp rfl)) (Zn ?_))
        exact ⟨⟨orderN b, orderN b'⟩, ⟨(if_pos hk2).symm, (if_pos hk2).symm⟩, Wk.re (.cons rfl lr (.cons rfl lr (.cons rfl lr (.cons rfl lr (.cons rfl lr .nil))))) (Reown.refl _) (fun _ h => by first | exact h | simp [h])⟩
      have hk2 : k ≠ 2 := by simpa using c2
      refine Zk ?_
      exact ⟨⟨b, b'⟩, ⟨(if_neg hk2).symm, (if_neg hk2).symm⟩, Wk.re (.cons rfl lr (.cons rfl lr (.cons rfl lr (.cons rfl lr (.cons rfl lr .nil))))) (Reown.refl _) (fun _ h => by first | exact h | simp [h])⟩
    · intro ⟨n1, n2⟩ ⟨hn1, hn2⟩
      refine J.conv (by (try simp only [nl, stepsO, valO, nthO, curO, mrg, AV.cellsOf, splice_zero, splice_succ, Nat.reduceAdd]); rfl) ?_
      refine J.seq (J.regionX mixed (Zf 0 [] rfl (fun _ => QW.move (.tmp rfl)) (Zf 1 [] rfl (fun _ => QW.move (.tmp rfl)) (Zf 2 [27, 28] rfl (fun _ => QW.call gofn140 (.cons (.tmp rfl) (.cons (.tmp rfl) .nil)) (cmpU_ok _ _)) (Zf 3 [] rfl (fun _ => QW.field_ptr fo26_2 (.tmp rfl) rfl) (Zo 4 1 [30] rfl (fun _ ho_ => QW.load_box1 1 ty9 (.tmp rfl) ho_ rfl) (Zf 5 [] rfl (fun _ => QW.field_ptr fo26_2 (.tmp rfl) rfl) (Zo 6 0 [32] rfl (fun _ ho_ => QW.load_box1 0 ty9 (.tmp rfl) ho_ rfl) (Zf 7 [31, 33] rfl (fun _ => QW.call gofn141 (.cons (.tmp rfl) (.cons (.tmp rfl) .nil)) (cmpStr_ok _ _)) ?_)))))))))
      refine Zf 8 [] rfl (fun _ => QW.field_ptr fo26_3 (.tmp rfl) rfl) (Zo 9 1 [35] rfl (fun _ ho_ => QW.load_box1 1 ty23 (.tmp rfl) ho_ rfl) (Zf 10 [] rfl (fun _ => QW.field_ptr fo26_3 (.tmp rfl) rfl) (Zo 11 0 [37] rfl (fun _ ho_ => QW.load_box1 0 ty23 (.tmp rfl) ho_ rfl) (Zf 12 [36, 38] rfl (fun _ => QW.call gofn142 (.cons (.tmp rfl) (.cons (.tmp rfl) .nil)) (cmpKeys_ok ks ks' h3 h4)) (Zf 13 [] rfl (fun _ => QW.field_ptr fo26_4 (.tmp rfl) rfl) (Zo 14 1 [40] rfl (fun _ ho_ => QW.load_box1 1 ty24 (.tmp rfl) ho_ rfl) (Zf 15 [] rfl (fun _ => QW.field_ptr fo26_4 (.tmp rfl) rfl) (Zo 16 0 [42] rfl (fun _ ho_ => QW.load_box1 0 ty24 (.tmp rfl) ho_ rfl) (Zf 17 [41, 43] rfl (fun _ => QW.call gofn143 (.cons (.tmp rfl) (.cons (.tmp rfl) (.cons .func .nil))) (cmpVals_ok is is' h1 h2 (fun x hx y hy => (by obtain ⟨i, hi, rfl⟩ := List.getElem_of_mem hx; exact ih Vc.self Vc.self (hwi _ hx) (hwi' _ hy) (V.sz_get hn hi))))) ?_)))))))))
      refine Zf 18 [29, 34, 39, 44] rfl (fun _ => QW.buildSlice (idx := [0, 1, 2, 3]) (xs := [[.c (.int .i64 (cmpI (n1 : Int) (n2 : Int)))], [.c (.int .i64 (cmpS t t'))], [.c (.int .i64 (cmpK ks ks'))], [.c (.int .i64 (V.ords is is'))]]) sl177 el3 z3 rfl (.cons (.tmp rfl) (.cons (.tmp rfl) (.cons (.tmp rfl) (.cons (.tmp rfl) .nil)))) rfl rfl rfl rfl rfl rfl rfl rfl rfl) (Zf 19 [45] rfl (fun _ => QW.call gofn139 (.cons (.tmp rfl) .nil) (or_ok [(cmpI (n1 : Int) (n2 : Int)), (cmpS t t'), (cmpK ks ks'), (V.ords is is')] (by simp))) ?_)
      refine Zf 20 [46] rfl (fun _ => QW.assign (.tmp rfl)) (JX.fin (by kernel_rfl) (by kernel_rfl) fun bs_ => ?_)
      refine QX.conv (by (try simp only [vlF, bxF, tkM, lvM, Flt.val, Flt.bx, nx, nl, stepsO, valO, nthO, curO, mrg, AV.cellsOf, splice_zero, splice_succ, Nat.reduceAdd]); rfl) ?_
      exact thenQ.n (J.ret (Zr [.k, .k] (RetEv.one rfl (REv.tmp rfl lr)) rfl ⟨by simp only [V.ord]; rw [hz, orI_z, ← hn1, ← hn2]; simp only [orL]; rw [show orI (V.ords is is') 0 = V.ords is is' from orL_one _], rfl⟩))
theorem vorder_ok {v u : V} {ys zs : List AV} {fr fr2 : Bool} (hv : Vc fr v ys) (hu : Vc fr2 u zs) (hw : v.wf) (hw2 : u.wf) : Fn Tryz.prog 124 [.agg ys, .agg zs] (.c (.int .i64 (v.ord u))) := vorder_n _ hv hu hw hw2 (Nat.le_refl _)
end Go.Proofs.YtmccnmahegbmpaaGreat.J

/- Walks: the page's order of values. -/
namespace Go.Proofs.YtmccnmahegbmpaaGreat.J
open Go Go.RowKit
set_option maxRecDepth 10000
set_option maxHeartbeats 4000000
section
variable {k : Int} {b b' : Nat} {t t' : Str} {ks ks' : List Str} {is is' : List V}
end
end Go.Proofs.YtmccnmahegbmpaaGreat.J

/- Walks: the page sets a part; what is alive. -/
namespace Go.Proofs.YtmccnmahegbmpaaGreat.J
open Go Go.RowKit
set_option maxRecDepth 10000
set_option maxHeartbeats 4000000
end Go.Proofs.YtmccnmahegbmpaaGreat.J

/- Walks: values compared; ValueOrders, ValueOrder. -/
namespace Go.Proofs.YtmccnmahegbmpaaGreat.J
open Go Go.RowKit
set_option maxRecDepth 10000
set_option maxHeartbeats 4000000
def cmpAV (v u : V) : AV := .tup [.c (.int .i64 (v.cmp u).1), .c (.int .i64 (v.cmp u).2)]
theorem cmpAV_of {v u : V} {c e : Int} (h : v.cmp u = (c, e)) : cmpAV v u = .tup [.c (.int .i64 c), .c (.int .i64 e)] := by rw [cmpAV, h]
theorem vcmp_ok {fr fr2 : Bool} {v u : V} {ys zs : List AV} (hv : Vc fr v ys) (hu : Vc fr2 u zs) (hw : v.wf) (hw2 : u.wf) : Fn Tryz.prog 114 [.agg ys, .agg zs] (cmpAV v u) := by
  subst hv hu
  refine AC.of_J Tryz.func114 rfl Tryz.ntmps114 rfl fun w0 A0 => ?_
  refine Zs (JL.box_agg (.tmp rfl) rfl fun b2 => JL.box_agg (.tmp rfl) rfl fun b3 => Zq rfl (QW.assign .const) (Zq rfl (QW.assign .const) (Zn (J.seq (Zs (Zq rfl (QW.load_box 1 ty26 (.tmp rfl) rfl (take_at vl rfl) vl) (Zq rfl (QW.call gofn16 (.cons (.tmp rfl) .nil) (check_ok Vc.self hw)) ?_)))))))
  refine Zq rfl (QW.assign (.tmp rfl)) (Zn (Zs (Zq rfl (QW.move (.tmp rfl)) (Zq rfl (QW.neq (.tmp rfl) .const) (Zn ?_)))))
  refine J.cond (.tmp rfl) (fun c1 => ?_) (fun c1 => ?_)
  · skip
    simp at c1
    exact Zs (Zq rfl (QW.move (.tmp rfl)) (Zq rfl (QW.assign .const) (Zq rfl (QW.assign (.tmp rfl)) (Zn (J.ret (thenQ.r (Zr [.k, .k] (RetEv.two rfl (REv.tmp rfl lr) (REv.tmp rfl lr)) rfl ⟨congrArg Res.ret (cmpAV_of (c := 0) (e := v.err) (by rw [V.cmp, if_pos c1])).symm, rfl⟩)))))))
  simp at c1
  have hf := V.fine_of c1
  refine Zk (J.seq (Zs (Zq rfl (QW.load_box 0 ty26 (.tmp rfl) rfl (take_at vl rfl) vl) (Zq rfl (QW.call gofn16 (.cons (.tmp rfl) .nil) (check_ok Vc.self hw2)) (Zq rfl (QW.assign (.tmp rfl)) (Zn (Zs (Zq rfl (QW.move (.tmp rfl)) (Zq rfl (QW.neq (.tmp rfl) .const) ?_)))))))))
  refine Zn ?_
  refine J.cond (.tmp rfl) (fun c2 => ?_) (fun c2 => ?_)
  · skip
    simp at c2
    exact Zs (Zq rfl (QW.move (.tmp rfl)) (Zq rfl (QW.assign .const) (Zq rfl (QW.assign (.tmp rfl)) (Zn (J.ret (thenQ.r (Zr [.k, .k] (RetEv.two rfl (REv.tmp rfl lr) (REv.tmp rfl lr)) rfl ⟨congrArg Res.ret (cmpAV_of (c := 0) (e := u.err) (by rw [V.cmp, if_neg (by simp [c1]), if_pos c2])).symm, rfl⟩)))))))
  simp at c2
  have hg := V.fine_of c2
  exact Zk (Zs (Zq rfl (QW.load_box 1 ty26 (.tmp rfl) rfl (take_at vl rfl) vl) (Zq rfl (QW.load_box 0 ty26 (.tmp rfl) rfl (take_at vl rfl) vl) (Zq rfl (QW.call gofn124 (.cons (.tmp rfl) (.cons (.tmp rfl) .nil)) (vorder_ok Vc.self Vc.self hw hw2)) (Zq rfl (QW.assign (.tmp rfl)) (Zq rfl (QW.assign .const) (Zn (J.ret (Zr [.k, .k] (RetEv.two rfl (REv.tmp rfl lr) (REv.tmp rfl lr)) rfl ⟨congrArg Res.ret (cmpAV_of (c := v.ord u) (e := 0) (by rw [V.cmp, if_neg (by simp [c1]), if_neg (by simp [c2])])).symm, rfl⟩)))))))))
theorem vone_ok {fr fr2 : Bool} {v u : V} {ys zs : List AV} (hv : Vc fr v ys) (hu : Vc fr2 u zs) (hw : v.wf) (hw2 : u.wf) : Fn Tryz.prog 113 [.agg ys, .agg zs] (.c (.bool (v.one u))) := by
  subst hv hu
  refine AC.of_J Tryz.func113 rfl Tryz.ntmps113 rfl fun w0 A0 => ?_
  refine Zs (JL.box_agg (.tmp rfl) rfl fun b2 => JL.box_agg (.tmp rfl) rfl fun b3 => Zq rfl (QW.assign .const) (Zn (Zs (Zq rfl (QW.load_box 1 ty26 (.tmp rfl) rfl (take_at vl rfl) vl) (Zq rfl (QW.load_box 0 ty26 (.tmp rfl) rfl (take_at vl rfl) vl) (Zq rfl (QW.call gofn114 (.cons (.tmp rfl) (.cons (.tmp rfl) .nil)) (vcmp_ok Vc.self Vc.self hw hw2)) (Zq rfl (QW.move (.tmp rfl)) ?_)))))))
  refine Zq rfl (QW.extract (.tmp rfl) rfl) (Zq rfl (QW.extract (.tmp rfl) rfl) (Zq rfl (QW.assign (.tmp rfl)) (Zq rfl (QW.assign (.tmp rfl)) (Zn (Zs (Zq rfl (QW.move (.tmp rfl)) (Zq rfl (QW.eql (.tmp rfl) .const) (Zq rfl (QW.move (.tmp rfl)) (Zg rfl (fun hg => (QW.move (.tmp rfl))) ?_)))))))))
  exact Zg rfl (fun hg => (QW.eql (.when rfl hg) .const)) (Zq rfl (QW.pick_and (.tmp rfl) (.tmp rfl)) (Zq rfl (QW.assign (.tmp rfl)) (Zn (J.ret (Zr [.k, .k] (RetEv.one rfl (REv.tmp rfl lr)) rfl ⟨by unfold V.one; rfl, rfl⟩)))))
end Go.Proofs.YtmccnmahegbmpaaGreat.J

/- Walks: operations whose parts are all reckoned. -/
namespace Go.Proofs.YtmccnmahegbmpaaGreat.J
open Go Go.RowKit
set_option maxRecDepth 10000
set_option maxHeartbeats 4000000
theorem pe11 {o : Int} (ho : o = 11 ∨ o = 12 ∨ o = 13 ∨ o = 14) (t : Str) (a b : V) : plainE o t [a, b] = if a.kind ≠ 2 ∨ b.kind ≠ 2 then .error 81 else .ok (.nu (arO o a.bits b.bits)) := by
  rcases ho with rfl | rfl | rfl | rfl <;> rfl
theorem pe15 (t : Str) (a : V) : plainE 15 t [a] = if a.kind = 2 then .ok (.nu (floorC a.bits)) else .error 81 := rfl
theorem pe16 (t : Str) (a b : V) : plainE 16 t [a, b] = .ok (.tr (a.ord b == 0)) := rfl
theorem pe17 (t : Str) (a b : V) : plainE 17 t [a, b] = if b.kind = a.kind then .ok (.tr (decide (a.ord b < 0))) else .error 81 := rfl
theorem pe20 (t : Str) (a : V) : plainE 20 t [a] = if a.kind = 1 then .ok (.tr (a.bits == 0)) else .error 81 := rfl
theorem pe22 (t : Str) (a b : V) : plainE 22 t [a, b] = if a.kind ≠ 3 ∨ b.kind ≠ 3 then .error 81 else if 128 < a.text.length + b.text.length then .error 84 else .ok (.tx (a.text ++ b.text)) := rfl
theorem pe26 (t : Str) (a : V) : plainE 26 t [a] = if a.kind ≠ 2 then .error 81 else if intE a.bits ≠ 0 then .error 7 else .ok (.tx (intD (intV a.bits))) := rfl
theorem plain_ok {fr : Bool} {o : Int} {bb : Nat} {t : Str} {args : List EX} {l : List V} {ys : List AV} (he : Xc fr (.mk o bb t args) ys) (ht : t.length ≤ reach) (hl : ∀ x ∈ l, x.good) (hn : l.length ≤ 8 ∧ (o = 23 ∨ ((o = 8 ∨ o = 10 ∨ o = 15 ∨ o = 20 ∨ o = 26) ∧ l.length = 1) ∨ ((o = 9 ∨ o = 11 ∨ o = 12 ∨ o = 13 ∨ o = 14 ∨ o = 16 ∨ o = 17 ∨ o = 22 ∨ o = 24 ∨ o = 25) ∧ l.length = 2))) :
    AC Tryz.prog 100 [] [.agg ys, .sl false false eV (V.css false l)] (PlR (plainE o t l)) := by
  subst he
  obtain ⟨hn8, hn⟩ := hn
  refine AC.of_J Tryz.func100 rfl Tryz.ntmps100 rfl fun w0 A0 => ?_
  refine Zs (JL.box_agg (.tmp rfl) rfl fun b2 => JL.alloc z26 rfl rfl fun b4 => Zn (J.seq (Zs (Zq rfl (QW.field_ptr fo79_0 (.tmp rfl) rfl) (Zq rfl (QW.load_box1 1 ty3 (.tmp rfl) rfl rfl) (Zn (J.block ?_)))))))
  refine J.seq (Zs (Zq rfl (QW.eql (.tmp rfl) .const) (Zq rfl (QW.assign (.tmp rfl)) (Zn ?_))))
  refine J.cond (.tmp rfl) (fun c1 => ?_) (fun c1 => ?_)
  · skip
    have ho : o = 11 ∨ o = 12 ∨ o = 13 ∨ o = 14 := by (simp at c1; omega)
    obtain ⟨a, b, rfl⟩ := two_of (l := l) (by omega)
    have ha := hl a (by simp)
    have hb := hl b (by simp)
    refine Zk ?_
    refine J.cond (.tmp rfl) (fun c2 => ?_) (fun c2 => absurd c2 (by rw [c1]; decide))
    refine Zs (Zq rfl (QW.move (.tmp rfl)) (Zq rfl (QW.buildSlice (idx := [0, 1]) (xs := intsAV [2, 2]) sl177 el3 z3 rfl (.cons .const (.cons .const .nil)) rfl rfl rfl rfl rfl rfl rfl rfl rfl) ?_))
    refine JL.callPF [] gofn110 rfl Lent.nil (fun _ => (.cons (.tmp rfl) (.cons (.tmp rfl) .nil))) (kinds_ok _ [2, 2] (by simp) (by simp)) (.inl rfl) (fun k18 x18 o18 h18 => ?_) (fun k18 => ?_)
    rotate_left
    · skip
      refine thenQ.p (blkQ.p (thenQ.p ?_))
      exact ⟨_, selP [.k, .k] _, _, rfl, rfl, sel_perm [.k, .k] _, PlR.er (c := 81) ((pe11 ho t a b).trans (if_pos (by simp [kindsB] at k18; omega))) (by decide)⟩
    obtain ⟨rfl, rfl⟩ := h18
    refine Zn (J.seq (J.regionX mixed (Zf 0 [] rfl (fun _ => QW.field_ptr fo79_0 (.tmp rfl) rfl) (Zo 1 1 [19] rfl (fun _ ho_ => QW.load_box1 1 ty3 (.tmp rfl) ho_ rfl) (Zf 2 [] rfl (fun _ => QW.move (.tmp rfl)) (Zf 3 [21] rfl (fun _ => QW.index_sl sl24 ty26 rfl (.tmp rfl) .const rfl rfl) (Zf 4 [22] rfl (fun _ => QW.field_ref fo26_1 (.tmp rfl) rfl) (Zf 5 [23] rfl (fun _ => QW.load_ref1 ty22 (.tmp rfl) (V.cs_1 _ _)) (Zf 6 [] rfl (fun _ => QW.move (.tmp rfl)) ?_)))))))))
    refine Zf 7 [25] rfl (fun _ => QW.index_sl sl24 ty26 rfl (.tmp rfl) .const rfl rfl) (Zf 8 [26] rfl (fun _ => QW.field_ref fo26_1 (.tmp rfl) rfl) (Zf 9 [27] rfl (fun _ => QW.load_ref1 ty22 (.tmp rfl) (V.cs_1 _ _)) (Zf 10 [20, 24, 28] rfl (fun _ => QW.call gofn111 (.cons (.tmp rfl) (.cons (.tmp rfl) (.cons (.tmp rfl) .nil))) (arith_ok _ _ _)) (JX.one 11 [true, true, true, true, true, true, true, true, true, true, true] rfl (by kernel_rfl) (by kernel_rfl) rfl rfl (by kernel_rfl) rfl fun bs11_ pe_ ex_ => ?_))))
    refine JL.conv (by (try simp only [vlF, bxF, tkM, lvM, Flt.val, Flt.bx, nx, nl, stepsO, valO, nthO, curO, mrg, AV.cellsOf, splice_zero, splice_succ, Nat.reduceAdd]); rfl) ?_
    refine JL.store_boxF 0 ty26 (.tmp rfl) rfl (.tmp rfl) rfl rfl rfl rfl (JL.nil ?_)
    refine thenQ.n ⟨[], _, rfl, rfl, rfl, rfl, rfl, Reown.tkN 2 rfl, trivial, trivial, ?_⟩
    refine JX.conv (S' := [11, 10, 9, 8, 7, 6, 5, 4, 3, 2, 1, 0]) rfl (by (try simp only [lvM]); rfl) (by (try simp only [vlF, bxF, tkM, lvM, Flt.val, Flt.bx, nx, nl, stepsO, valO, nthO, curO, mrg, AV.cellsOf, splice_zero, splice_succ, Nat.reduceAdd]); rfl) ?_
    refine JX.fin (by kernel_rfl) (by kernel_rfl) fun bs_ => ?_
    refine QX.conv (by (try simp only [vlF, bxF, tkM, lvM, Flt.val, Flt.bx, nx, nl, stepsO, valO, nthO, curO, mrg, AV.cellsOf, splice_zero, splice_succ, Nat.reduceAdd]); rfl) ?_
    exact thenQ.n (J.ret (blkQ.r (thenQ.r (Zr [.k, .k] (RetEv.one rfl (REv.cell 0 ty26 rfl rfl rfl rfl lr)) rfl (PlR.ok ((pe11 ho t a b).trans (if_neg (by simp [kindsB] at k18; omega))))))))
  have n11 : ¬ o = 11 := by simpa using c1
  refine Zs (Zq rfl (QW.eql (.tmp rfl) .const) (Zq rfl (QW.assign (.tmp rfl)) (Zn ?_)))
  refine J.cond (.tmp rfl) (fun c2 => ?_) (fun c2 => ?_)
  · skip
    have ho : o = 11 ∨ o = 12 ∨ o = 13 ∨ o = 14 := by (simp at c2; omega)
    obtain ⟨a, b, rfl⟩ := two_of (l := l) (by omega)
    have ha := hl a (by simp)
    have hb := hl b (by simp)
    refine Zk ?_
    refine J.cond (.tmp rfl) (fun c3 => ?_) (fun c3 => absurd c3 (by rw [c2]; decide))
    refine Zs (Zq rfl (QW.move (.tmp rfl)) (Zq rfl (QW.buildSlice (idx := [0, 1]) (xs := intsAV [2, 2]) sl177 el3 z3 rfl (.cons .const (.cons .const .nil)) rfl rfl rfl rfl rfl rfl rfl rfl rfl) ?_))
    refine JL.callPF [] gofn110 rfl Lent.nil (fun _ => (.cons (.tmp rfl) (.cons (.tmp rfl) .nil))) (kinds_ok _ [2, 2] (by simp) (by simp)) (.inl rfl) (fun k18 x18 o18 h18 => ?_) (fun k18 => ?_)
    rotate_left
    · skip
      refine thenQ.p (blkQ.p (thenQ.p ?_))
      exact ⟨_, selP [.k, .k] _, _, rfl, rfl, sel_perm [.k, .k] _, PlR.er (c := 81) ((pe11 ho t a b).trans (if_pos (by simp [kindsB] at k18; omega))) (by decide)⟩
    obtain ⟨rfl, rfl⟩ := h18
    refine Zn (J.seq (J.regionX mixed (Zf 0 [] rfl (fun _ => QW.field_ptr fo79_0 (.tmp rfl) rfl) (Zo 1 1 [19] rfl (fun _ ho_ => QW.load_box1 1 ty3 (.tmp rfl) ho_ rfl) (Zf 2 [] rfl (fun _ => QW.move (.tmp rfl)) (Zf 3 [21] rfl (fun _ => QW.index_sl sl24 ty26 rfl (.tmp rfl) .const rfl rfl) (Zf 4 [22] rfl (fun _ => QW.field_ref fo26_1 (.tmp rfl) rfl) (Zf 5 [23] rfl (fun _ => QW.load_ref1 ty22 (.tmp rfl) (V.cs_1 _ _)) (Zf 6 [] rfl (fun _ => QW.move (.tmp rfl)) ?_)))))))))
    refine Zf 7 [25] rfl (fun _ => QW.index_sl sl24 ty26 rfl (.tmp rfl) .const rfl rfl) (Zf 8 [26] rfl (fun _ => QW.field_ref fo26_1 (.tmp rfl) rfl) (Zf 9 [27] rfl (fun _ => QW.load_ref1 ty22 (.tmp rfl) (V.cs_1 _ _)) (Zf 10 [20, 24, 28] rfl (fun _ => QW.call gofn111 (.cons (.tmp rfl) (.cons (.tmp rfl) (.cons (.tmp rfl) .nil))) (arith_ok _ _ _)) (JX.one 11 [true, true, true, true, true, true, true, true, true, true, true] rfl (by kernel_rfl) (by kernel_rfl) rfl rfl (by kernel_rfl) rfl fun bs11_ pe_ ex_ => ?_))))
    refine JL.conv (by (try simp only [vlF, bxF, tkM, lvM, Flt.val, Flt.bx, nx, nl, stepsO, valO, nthO, curO, mrg, AV.cellsOf, splice_zero, splice_succ, Nat.reduceAdd]); rfl) ?_
    refine JL.store_boxF 0 ty26 (.tmp rfl) rfl (.tmp rfl) rfl rfl rfl rfl (JL.nil ?_)
    refine thenQ.n ⟨[], _, rfl, rfl, rfl, rfl, rfl, Reown.tkN 2 rfl, trivial, trivial, ?_⟩
    refine JX.conv (S' := [11, 10, 9, 8, 7, 6, 5, 4, 3, 2, 1, 0]) rfl (by (try simp only [lvM]); rfl) (by (try simp only [vlF, bxF, tkM, lvM, Flt.val, Flt.bx, nx, nl, stepsO, valO, nthO, curO, mrg, AV.cellsOf, splice_zero, splice_succ, Nat.reduceAdd]); rfl) ?_
    refine JX.fin (by kernel_rfl) (by kernel_rfl) fun bs_ => ?_
    refine QX.conv (by (try simp only [vlF, bxF, tkM, lvM, Flt.val, Flt.bx, nx, nl, stepsO, valO, nthO, curO, mrg, AV.cellsOf, splice_zero, splice_succ, Nat.reduceAdd]); rfl) ?_
    exact thenQ.n (J.ret (blkQ.r (thenQ.r (Zr [.k, .k] (RetEv.one rfl (REv.cell 0 ty26 rfl rfl rfl rfl lr)) rfl (PlR.ok ((pe11 ho t a b).trans (if_neg (by simp [kindsB] at k18; omega))))))))
  have n12 : ¬ o = 12 := by simpa using c2
  refine Zs (Zq rfl (QW.eql (.tmp rfl) .const) (Zq rfl (QW.assign (.tmp rfl)) (Zn ?_)))
  refine J.cond (.tmp rfl) (fun c3 => ?_) (fun c3 => ?_)
  · skip
    have ho : o = 11 ∨ o = 12 ∨ o = 13 ∨ o = 14 := by (simp at c3; omega)
    obtain ⟨a, b, rfl⟩ := two_of (l := l) (by omega)
    have ha := hl a (by simp)
    have hb := hl b (by simp)
    refine Zk ?_
    refine J.cond (.tmp rfl) (fun c4 => ?_) (fun c4 => absurd c4 (by rw [c3]; decide))
    refine Zs (Zq rfl (QW.move (.tmp rfl)) (Zq rfl (QW.buildSlice (idx := [0, 1]) (xs := intsAV [2, 2]) sl177 el3 z3 rfl (.cons .const (.cons .const .nil)) rfl rfl rfl rfl rfl rfl rfl rfl rfl) ?_))
    refine JL.callPF [] gofn110 rfl Lent.nil (fun _ => (.cons (.tmp rfl) (.cons (.tmp rfl) .nil))) (kinds_ok _ [2, 2] (by simp) (by simp)) (.inl rfl) (fun k18 x18 o18 h18 => ?_) (fun k18 => ?_)
    rotate_left
    · skip
      refine thenQ.p (blkQ.p (thenQ.p ?_))
      exact ⟨_, selP [.k, .k] _, _, rfl, rfl, sel_perm [.k, .k] _, PlR.er (c := 81) ((pe11 ho t a b).trans (if_pos (by simp [kindsB] at k18; omega))) (by decide)⟩
    obtain ⟨rfl, rfl⟩ := h18
    refine Zn (J.seq (J.regionX mixed (Zf 0 [] rfl (fun _ => QW.field_ptr fo79_0 (.tmp rfl) rfl) (Zo 1 1 [19] rfl (fun _ ho_ => QW.load_box1 1 ty3 (.tmp rfl) ho_ rfl) (Zf 2 [] rfl (fun _ => QW.move (.tmp rfl)) (Zf 3 [21] rfl (fun _ => QW.index_sl sl24 ty26 rfl (.tmp rfl) .const rfl rfl) (Zf 4 [22] rfl (fun _ => QW.field_ref fo26_1 (.tmp rfl) rfl) (Zf 5 [23] rfl (fun _ => QW.load_ref1 ty22 (.tmp rfl) (V.cs_1 _ _)) (Zf 6 [] rfl (fun _ => QW.move (.tmp rfl)) ?_)))))))))
    refine Zf 7 [25] rfl (fun _ => QW.index_sl sl24 ty26 rfl (.tmp rfl) .const rfl rfl) (Zf 8 [26] rfl (fun _ => QW.field_ref fo26_1 (.tmp rfl) rfl) (Zf 9 [27] rfl (fun _ => QW.load_ref1 ty22 (.tmp rfl) (V.cs_1 _ _)) (Zf 10 [20, 24, 28] rfl (fun _ => QW.call gofn111 (.cons (.tmp rfl) (.cons (.tmp rfl) (.cons (.tmp rfl) .nil))) (arith_ok _ _ _)) (JX.one 11 [true, true, true, true, true, true, true, true, true, true, true] rfl (by kernel_rfl) (by kernel_rfl) rfl rfl (by kernel_rfl) rfl fun bs11_ pe_ ex_ => ?_))))
    refine JL.conv (by (try simp only [vlF, bxF, tkM, lvM, Flt.val, Flt.bx, nx, nl, stepsO, valO, nthO, curO, mrg, AV.cellsOf, splice_zero, splice_succ, Nat.reduceAdd]); rfl) ?_
    refine JL.store_boxF 0 ty26 (.tmp rfl) rfl (.tmp rfl) rfl rfl rfl rfl (JL.nil ?_)
    refine thenQ.n ⟨[], _, rfl, rfl, rfl, rfl, rfl, Reown.tkN 2 rfl, trivial, trivial, ?_⟩
    refine JX.conv (S' := [11, 10, 9, 8, 7, 6, 5, 4, 3, 2, 1, 0]) rfl (by (try simp only [lvM]); rfl) (by (try simp only [vlF, bxF, tkM, lvM, Flt.val, Flt.bx, nx, nl, stepsO, valO, nthO, curO, mrg, AV.cellsOf, splice_zero, splice_succ, Nat.reduceAdd]); rfl) ?_
    refine JX.fin (by kernel_rfl) (by kernel_rfl) fun bs_ => ?_
    refine QX.conv (by (try simp only [vlF, bxF, tkM, lvM, Flt.val, Flt.bx, nx, nl, stepsO, valO, nthO, curO, mrg, AV.cellsOf, splice_zero, splice_succ, Nat.reduceAdd]); rfl) ?_
    exact thenQ.n (J.ret (blkQ.r (thenQ.r (Zr [.k, .k] (RetEv.one rfl (REv.cell 0 ty26 rfl rfl rfl rfl lr)) rfl (PlR.ok ((pe11 ho t a b).trans (if_neg (by simp [kindsB] at k18; omega))))))))
  have n13 : ¬ o = 13 := by simpa using c3
  refine J.region_lit (Zq rfl (QW.eql (.tmp rfl) .const) (Zq rfl (QW.assign (.tmp rfl)) (Zn ?_)))
  refine J.cond (.tmp rfl) (fun c4 => ?_) (fun c4 => ?_)
  · skip
    have ho : o = 11 ∨ o = 12 ∨ o = 13 ∨ o = 14 := by (simp at c4; omega)
    obtain ⟨a, b, rfl⟩ := two_of (l := l) (by omega)
    have ha := hl a (by simp)
    have hb := hl b (by simp)
    refine Zs (Zq rfl (QW.move (.tmp rfl)) (Zq rfl (QW.buildSlice (idx := [0, 1]) (xs := intsAV [2, 2]) sl177 el3 z3 rfl (.cons .const (.cons .const .nil)) rfl rfl rfl rfl rfl rfl rfl rfl rfl) ?_))
    refine JL.callPF [] gofn110 rfl Lent.nil (fun _ => (.cons (.tmp rfl) (.cons (.tmp rfl) .nil))) (kinds_ok _ [2, 2] (by simp) (by simp)) (.inl rfl) (fun k18 x18 o18 h18 => ?_) (fun k18 => ?_)
    rotate_left
    · skip
      refine thenQ.p (blkQ.p (thenQ.p ?_))
      exact ⟨_, selP [.k, .k] _, _, rfl, rfl, sel_perm [.k, .k] _, PlR.er (c := 81) ((pe11 ho t a b).trans (if_pos (by simp [kindsB] at k18; omega))) (by decide)⟩
    obtain ⟨rfl, rfl⟩ := h18
    refine Zn (J.seq (J.regionX mixed (Zf 0 [] rfl (fun _ => QW.field_ptr fo79_0 (.tmp rfl) rfl) (Zo 1 1 [19] rfl (fun _ ho_ => QW.load_box1 1 ty3 (.tmp rfl) ho_ rfl) (Zf 2 [] rfl (fun _ => QW.move (.tmp rfl)) (Zf 3 [21] rfl (fun _ => QW.index_sl sl24 ty26 rfl (.tmp rfl) .const rfl rfl) (Zf 4 [22] rfl (fun _ => QW.field_ref fo26_1 (.tmp rfl) rfl) (Zf 5 [23] rfl (fun _ => QW.load_ref1 ty22 (.tmp rfl) (V.cs_1 _ _)) (Zf 6 [] rfl (fun _ => QW.move (.tmp rfl)) ?_)))))))))
    refine Zf 7 [25] rfl (fun _ => QW.index_sl sl24 ty26 rfl (.tmp rfl) .const rfl rfl) (Zf 8 [26] rfl (fun _ => QW.field_ref fo26_1 (.tmp rfl) rfl) (Zf 9 [27] rfl (fun _ => QW.load_ref1 ty22 (.tmp rfl) (V.cs_1 _ _)) (Zf 10 [20, 24, 28] rfl (fun _ => QW.call gofn111 (.cons (.tmp rfl) (.cons (.tmp rfl) (.cons (.tmp rfl) .nil))) (arith_ok _ _ _)) (JX.one 11 [true, true, true, true, true, true, true, true, true, true, true] rfl (by kernel_rfl) (by kernel_rfl) rfl rfl (by kernel_rfl) rfl fun bs11_ pe_ ex_ => ?_))))
    refine JL.conv (by (try simp only [vlF, bxF, tkM, lvM, Flt.val, Flt.bx, nx, nl, stepsO, valO, nthO, curO, mrg, AV.cellsOf, splice_zero, splice_succ, Nat.reduceAdd]); rfl) ?_
    refine JL.store_boxF 0 ty26 (.tmp rfl) rfl (.tmp rfl) rfl rfl rfl rfl (JL.nil ?_)
    refine thenQ.n ⟨[], _, rfl, rfl, rfl, rfl, rfl, Reown.tkN 2 rfl, trivial, trivial, ?_⟩
    refine JX.conv (S' := [11, 10, 9, 8, 7, 6, 5, 4, 3, 2, 1, 0]) rfl (by (try simp only [lvM]); rfl) (by (try simp only [vlF, bxF, tkM, lvM, Flt.val, Flt.bx, nx, nl, stepsO, valO, nthO, curO, mrg, AV.cellsOf, splice_zero, splice_succ, Nat.reduceAdd]); rfl) ?_
    refine JX.fin (by kernel_rfl) (by kernel_rfl) fun bs_ => ?_
    refine QX.conv (by (try simp only [vlF, bxF, tkM, lvM, Flt.val, Flt.bx, nx, nl, stepsO, valO, nthO, curO, mrg, AV.cellsOf, splice_zero, splice_succ, Nat.reduceAdd]); rfl) ?_
    exact thenQ.n (J.ret (blkQ.r (thenQ.r (Zr [.k, .k] (RetEv.one rfl (REv.cell 0 ty26 rfl rfl rfl rfl lr)) rfl (PlR.ok ((pe11 ho t a b).trans (if_neg (by simp [kindsB] at k18; omega))))))))
  have n14 : ¬ o = 14 := by simpa using c4
  refine Zs (Zq rfl (QW.eql (.tmp rfl) .const) (Zq rfl (QW.assign (.tmp rfl)) (Zn ?_)))
  refine J.cond (.tmp rfl) (fun c5 => ?_) (fun c5 => ?_)
  · skip
    obtain rfl : o = 15 := by simpa using c5
    obtain ⟨a, rfl⟩ := one_of (l := l) (by omega)
    have ha := hl a (by simp)
    refine Zs (Zq rfl (QW.move (.tmp rfl)) (Zq rfl (QW.buildSlice (idx := [0]) (xs := intsAV [2]) sl177 el3 z3 rfl (.cons .const .nil) rfl rfl rfl rfl rfl rfl rfl rfl rfl) ?_))
    refine JL.callPF [] gofn110 rfl Lent.nil (fun _ => (.cons (.tmp rfl) (.cons (.tmp rfl) .nil))) (kinds_ok _ [2] (by simp) (by simp)) (.inl rfl) (fun k34 x34 o34 h34 => ?_) (fun k34 => ?_)
    rotate_left
    · skip
      refine thenQ.p (blkQ.p (thenQ.p ?_))
      exact ⟨_, selP [.k, .k] _, _, rfl, rfl, sel_perm [.k, .k] _, PlR.er (c := 81) ((pe15 t a).trans (if_neg (by simpa [kindsB] using k34))) (by decide)⟩
    obtain ⟨rfl, rfl⟩ := h34
    refine Zn (Zs (Zq rfl (QW.move (.tmp rfl)) (Zq rfl (QW.index_sl sl24 ty26 rfl (.tmp rfl) .const rfl rfl) (Zq rfl (QW.field_ref fo26_1 (.tmp rfl) rfl) (Zq rfl (QW.load_ref1 ty22 (.tmp rfl) (V.cs_1 _ _)) (Zq rfl (QW.call gofn112 (.cons (.tmp rfl) .nil) (floor_ok _)) (Zq rfl (QW.call gofn97 (.cons (.tmp rfl) .nil) (nof_ok _)) (JL.store_boxF 0 ty26 (.tmp rfl) rfl (.tmp rfl) rfl rfl rfl rfl (Zn ?_)))))))))
    exact J.ret (blkQ.r (thenQ.r (Zr [.k, .k] (RetEv.one rfl (REv.cell 0 ty26 rfl rfl rfl rfl lr)) rfl (PlR.ok ((pe15 t a).trans (if_pos (by simpa [kindsB] using k34)))))))
  have n15 : ¬ o = 15 := by simpa using c5
  refine Zs (Zq rfl (QW.eql (.tmp rfl) .const) (Zq rfl (QW.assign (.tmp rfl)) (Zn ?_)))
  refine J.cond (.tmp rfl) (fun c6 => ?_) (fun c6 => ?_)
  · skip
    obtain rfl : o = 16 := by simpa using c6
    obtain ⟨a, b, rfl⟩ := two_of (l := l) (by omega)
    have ha := hl a (by simp)
    have hb := hl b (by simp)
    refine J.seq (J.regionX mixed (Zf 0 [] rfl (fun _ => QW.move (.tmp rfl)) (Zf 1 [43] rfl (fun _ => QW.index_sl sl24 ty26 rfl (.tmp rfl) .const rfl rfl) (Zf 2 [44] rfl (fun _ => QW.load_ref ty26 (.tmp rfl) (take_at0 vl rfl) vl) (Zf 3 [] rfl (fun _ => QW.move (.tmp rfl)) (Zf 4 [46] rfl (fun _ => QW.index_sl sl24 ty26 rfl (.tmp rfl) .const rfl rfl) (Zf 5 [47] rfl (fun _ => QW.load_ref ty26 (.tmp rfl) (take_at0 vl rfl) vl) (Zf 6 [45, 48] rfl (fun _ => QW.call gofn113 (.cons (.tmp rfl) (.cons (.tmp rfl) .nil)) (vone_ok Vc.self Vc.self ha.wf hb.wf)) (Zf 7 [49] rfl (fun _ => QW.call gofn96 (.cons (.tmp rfl) .nil) (boolean_ok _)) ?_)))))))))
    refine JX.one 8 [true, true, true, true, true, true, true, true] rfl (by kernel_rfl) (by kernel_rfl) rfl rfl (by kernel_rfl) rfl fun bs8_ pe_ ex_ => ?_
    refine JL.conv (by (try simp only [vlF, bxF, tkM, lvM, Flt.val, Flt.bx, nx, nl, stepsO, valO, nthO, curO, mrg, AV.cellsOf, splice_zero, splice_succ, Nat.reduceAdd]); rfl) ?_
    refine JL.store_boxF 0 ty26 (.tmp rfl) rfl (.tmp rfl) rfl rfl rfl rfl (JL.nil ?_)
    refine thenQ.n ⟨[], _, rfl, rfl, rfl, rfl, rfl, Reown.tkN 2 rfl, trivial, trivial, ?_⟩
    refine JX.conv (S' := [8, 7, 6, 5, 4, 3, 2, 1, 0]) rfl (by (try simp only [lvM]); rfl) (by (try simp only [vlF, bxF, tkM, lvM, Flt.val, Flt.bx, nx, nl, stepsO, valO, nthO, curO, mrg, AV.cellsOf, splice_zero, splice_succ, Nat.reduceAdd]); rfl) ?_
    refine JX.fin (by kernel_rfl) (by kernel_rfl) fun bs_ => ?_
    refine QX.conv (by (try simp only [vlF, bxF, tkM, lvM, Flt.val, Flt.bx, nx, nl, stepsO, valO, nthO, curO, mrg, AV.cellsOf, splice_zero, splice_succ, Nat.reduceAdd]); rfl) ?_
    exact thenQ.n (J.ret (blkQ.r (thenQ.r (Zr [.k, .k] (RetEv.one rfl (REv.cell 0 ty26 rfl rfl (take_at vl rfl) vl lr)) rfl (PlR.ok ((pe16 t a b).trans (by rw [V.one, V.cmp, if_neg (by simp [ha.err]), if_neg (by simp [hb.err])]; simp)))))))
  have n16 : ¬ o = 16 := by simpa using c6
  refine Zs (Zq rfl (QW.eql (.tmp rfl) .const) (Zq rfl (QW.assign (.tmp rfl)) (Zn ?_)))
  refine J.cond (.tmp rfl) (fun c7 => ?_) (fun c7 => ?_)
  · skip
    obtain rfl : o = 17 := by simpa using c7
    obtain ⟨a, b, rfl⟩ := two_of (l := l) (by omega)
    have ha := hl a (by simp)
    have hb := hl b (by simp)
    refine J.seq (J.regionX mixed (Zf 0 [] rfl (fun _ => QW.move (.tmp rfl)) (Zf 1 [53] rfl (fun _ => QW.slice_L (l := 1) sl24 ty26 rfl (.tmp rfl) .const rfl (by rw [V.css_length]; simp)) ?_)))
    refine Zf 2 [] rfl (fun _ => QW.move (.tmp rfl)) (Zf 3 [55] rfl (fun _ => QW.index_sl sl24 ty26 rfl (.tmp rfl) .const rfl rfl) (Zf 4 [56] rfl (fun _ => QW.field_ref fo26_0 (.tmp rfl) rfl) (Zf 5 [57] rfl (fun _ => QW.load_ref1 ty3 (.tmp rfl) (V.cs_0 _ _)) (Zf 6 [58] rfl (fun _ => QW.buildSlice (idx := [0]) (xs := intsAV [a.kind]) sl177 el3 z3 rfl (.cons (.tmp rfl) .nil) rfl rfl rfl rfl rfl rfl rfl rfl rfl) (JX.one 7 [true, true, true, true, true, true, true] rfl (by kernel_rfl) (by kernel_rfl) rfl rfl (by kernel_rfl) rfl fun bs7_ pe_ ex_ => ?_)))))
    refine JL.conv (by (try simp only [vlF, bxF, tkM, lvM, Flt.val, Flt.bx, nx, nl, stepsO, valO, nthO, curO, mrg, AV.cellsOf, splice_zero, splice_succ, Nat.reduceAdd]); rfl) ?_
    refine JL.callPF [] gofn110 rfl Lent.nil (fun _ => (.cons (.tmp rfl) (.cons (.tmp rfl) .nil))) (kinds_ok [b] [a.kind] (by simp) (by simp)) (.inl rfl) (fun k60 x60 o60 h60 => ?_) (fun k60 => ?_)
    rotate_left
    · skip
      refine thenQ.p (thenQ.p (blkQ.p (thenQ.p ?_)))
      exact ⟨_, selP [.k, .k] _, _, rfl, rfl, sel_perm [.k, .k] _, PlR.er (c := 81) ((pe17 t a b).trans (if_neg (by simpa [kindsB] using k60))) (by decide)⟩
    obtain ⟨rfl, rfl⟩ := h60
    refine JL.nil ?_
    refine thenQ.n ⟨[_], _, rfl, rfl, rfl, rfl, rfl, Reown.mrgN 2 rfl rfl, ⟨rfl, rfl⟩, trivial, ?_⟩
    refine JX.conv (S' := [7, 6, 5, 4, 3, 2, 1, 0]) rfl (by (try simp only [lvM]); rfl) (by (try simp only [vlF, bxF, tkM, lvM, Flt.val, Flt.bx, nx, nl, stepsO, valO, nthO, curO, mrg, AV.cellsOf, splice_zero, splice_succ, Nat.reduceAdd]); rfl) ?_
    refine JX.fin (by kernel_rfl) (by kernel_rfl) fun bs_ => ?_
    refine QX.conv (by (try simp only [vlF, bxF, tkM, lvM, Flt.val, Flt.bx, nx, nl, stepsO, valO, nthO, curO, mrg, AV.cellsOf, splice_zero, splice_succ, Nat.reduceAdd]); rfl) ?_
    refine thenQ.n (J.seq (J.regionX mixed (Zf 0 [] rfl (fun _ => QW.move (.tmp rfl)) (Zf 1 [62] rfl (fun _ => QW.index_sl sl24 ty26 rfl (.tmp rfl) .const rfl rfl) (Zf 2 [63] rfl (fun _ => QW.load_ref ty26 (.tmp rfl) (take_at0 vl rfl) vl) (Zf 3 [] rfl (fun _ => QW.move (.tmp rfl)) (Zf 4 [65] rfl (fun _ => QW.index_sl sl24 ty26 rfl (.tmp rfl) .const rfl rfl) (Zf 5 [66] rfl (fun _ => QW.load_ref ty26 (.tmp rfl) (take_at0 vl rfl) vl) (Zf 6 [64, 67] rfl (fun _ => QW.call gofn114 (.cons (.tmp rfl) (.cons (.tmp rfl) .nil)) (vcmp_ok Vc.self Vc.self ha.wf hb.wf)) ?_)))))))))
    refine Zf 7 [68] rfl (fun _ => QW.move (.tmp rfl)) (Zf 8 [61] rfl (fun _ => QW.extract (.tmp rfl) rfl) (Zf 9 [61] rfl (fun _ => QW.extract (.tmp rfl) rfl) (Zf 10 [69] rfl (fun _ => QW.assign (.tmp rfl)) (Zf 11 [70] rfl (fun _ => QW.assign (.tmp rfl)) (JX.fin (by kernel_rfl) (by kernel_rfl) fun bs_ => ?_)))))
    refine QX.conv (by (try simp only [vlF, bxF, tkM, lvM, Flt.val, Flt.bx, nx, nl, stepsO, valO, nthO, curO, mrg, AV.cellsOf, splice_zero, splice_succ, Nat.reduceAdd]); rfl) ?_
    exact thenQ.n (Zs (Zq rfl (QW.move (.tmp rfl)) (Zq rfl (QW.lss (.tmp rfl) .const) (Zq rfl (QW.call gofn96 (.cons (.tmp rfl) .nil) (boolean_ok _)) (JL.store_boxF 0 ty26 (.tmp rfl) rfl (.tmp rfl) rfl rfl rfl rfl (Zn (J.ret (blkQ.r (thenQ.r (Zr [.k, .k] (RetEv.one rfl (REv.cell 0 ty26 rfl rfl (take_at vl rfl) vl lr)) rfl (PlR.ok ((pe17 t a b).trans (by rw [if_pos (by simpa [kindsB] using k60), V.cmp, if_neg (by simp [ha.err]), if_neg (by simp [hb.err])])))))))))))))
  have n17 : ¬ o = 17 := by simpa using c7
  refine Zs (Zq rfl (QW.eql (.tmp rfl) .const) (Zq rfl (QW.assign (.tmp rfl)) (Zn ?_)))
  refine J.cond (.tmp rfl) (fun c8 => ?_) (fun c8 => ?_)
  · skip
    obtain rfl : o = 20 := by simpa using c8
    obtain ⟨a, rfl⟩ := one_of (l := l) (by omega)
    have ha := hl a (by simp)
    refine Zs (Zq rfl (QW.move (.tmp rfl)) (Zq rfl (QW.buildSlice (idx := [0]) (xs := intsAV [1]) sl177 el3 z3 rfl (.cons .const .nil) rfl rfl rfl rfl rfl rfl rfl rfl rfl) ?_))
    refine JL.callPF [] gofn110 rfl Lent.nil (fun _ => (.cons (.tmp rfl) (.cons (.tmp rfl) .nil))) (kinds_ok _ [1] (by simp) (by simp)) (.inl rfl) (fun k78 x78 o78 h78 => ?_) (fun k78 => ?_)
    rotate_left
    · skip
      refine thenQ.p (blkQ.p (thenQ.p ?_))
      exact ⟨_, selP [.k, .k] _, _, rfl, rfl, sel_perm [.k, .k] _, PlR.er (c := 81) ((pe20 t a).trans (if_neg (by simpa [kindsB] using k78))) (by decide)⟩
    obtain ⟨rfl, rfl⟩ := h78
    refine Zn (Zs (Zq rfl (QW.move (.tmp rfl)) (Zq rfl (QW.index_sl sl24 ty26 rfl (.tmp rfl) .const rfl rfl) (Zq rfl (QW.field_ref fo26_1 (.tmp rfl) rfl) (Zq rfl (QW.load_ref1 ty22 (.tmp rfl) (V.cs_1 _ _)) (Zq rfl ((QW.eql (.tmp rfl) .const).conv (show _ = AV.c (.bool (a.bits == 0)) by rw [show ((a.bits : Int) == 0) = (a.bits == 0) by rw [Bool.eq_iff_iff]; simp])) ?_))))))
    exact Zq rfl (QW.call gofn96 (.cons (.tmp rfl) .nil) (boolean_ok _)) (JL.store_boxF 0 ty26 (.tmp rfl) rfl (.tmp rfl) rfl rfl rfl rfl (Zn (J.ret (blkQ.r (thenQ.r (Zr [.k, .k] (RetEv.one rfl (REv.cell 0 ty26 rfl rfl rfl rfl lr)) rfl (PlR.ok ((pe20 t a).trans (if_pos (by simpa [kindsB] using k78))))))))))
  have n20 : ¬ o = 20 := by simpa using c8
  refine Zs (Zq rfl (QW.eql (.tmp rfl) .const) (Zq rfl (QW.assign (.tmp rfl)) (Zn ?_)))
  refine J.cond (.tmp rfl) (fun c9 => ?_) (fun c9 => ?_)
  · skip
    obtain rfl : o = 22 := by simpa using c9
    obtain ⟨a, b, rfl⟩ := two_of (l := l) (by omega)
    have ha := hl a (by simp)
    have hb := hl b (by simp)
    have h1 := partOk_txt ha.fine.part
    have h2 := partOk_txt hb.fine.part
    refine Zs (Zq rfl (QW.move (.tmp rfl)) (Zq rfl (QW.buildSlice (idx := [0, 1]) (xs := intsAV [3, 3]) sl177 el3 z3 rfl (.cons .const (.cons .const .nil)) rfl rfl rfl rfl rfl rfl rfl rfl rfl) ?_))
    refine JL.callPF [] gofn110 rfl Lent.nil (fun _ => (.cons (.tmp rfl) (.cons (.tmp rfl) .nil))) (kinds_ok _ [3, 3] (by simp) (by simp)) (.inl rfl) (fun k89 x89 o89 h89 => ?_) (fun k89 => ?_)
    rotate_left
    · skip
      refine thenQ.p (blkQ.p (thenQ.p ?_))
      exact ⟨_, selP [.k, .k] _, _, rfl, rfl, sel_perm [.k, .k] _, PlR.er (c := 81) ((pe22 t a b).trans (if_pos (by simp [kindsB] at k89; omega))) (by decide)⟩
    obtain ⟨rfl, rfl⟩ := h89
    refine Zn (J.seq (J.regionX mixed (Zf 0 [] rfl (fun _ => QW.move (.tmp rfl)) (Zf 1 [90] rfl (fun _ => QW.index_sl sl24 ty26 rfl (.tmp rfl) .const rfl rfl) (Zf 2 [91] rfl (fun _ => QW.field_ref fo26_2 (.tmp rfl) rfl) (Zf 3 [92] rfl (fun _ => QW.load_ref1 ty9 (.tmp rfl) (V.cs_2 _ _)) (Zf 4 [93] rfl (fun _ => QW.len_s st9 (.tmp rfl)) (Zf 5 [] rfl (fun _ => QW.move (.tmp rfl)) (Zf 6 [95] rfl (fun _ => QW.index_sl sl24 ty26 rfl (.tmp rfl) .const rfl rfl) ?_)))))))))
    refine Zf 7 [96] rfl (fun _ => QW.field_ref fo26_2 (.tmp rfl) rfl) (Zf 8 [97] rfl (fun _ => QW.load_ref1 ty9 (.tmp rfl) (V.cs_2 _ _)) (Zf 9 [98] rfl (fun _ => QW.len_s st9 (.tmp rfl)) (Zf 10 [94, 99] rfl (fun _ => QW.add (.tmp rfl) (.tmp rfl) (w64 (by omega))) (Zf 11 [100] rfl (fun _ => QW.leq (.tmp rfl) .const) (JX.one 12 [true, true, true, true, true, true, true, true, true, true, true, true] rfl (by kernel_rfl) (by kernel_rfl) rfl rfl (by kernel_rfl) rfl fun bs12_ pe_ ex_ => ?_)))))
    refine JL.conv (by (try simp only [vlF, bxF, tkM, lvM, Flt.val, Flt.bx, nx, nl, stepsO, valO, nthO, curO, mrg, AV.cellsOf, splice_zero, splice_succ, Nat.reduceAdd]); rfl) ?_
    refine JL.callPF [] gofn95 rfl Lent.nil (fun _ => (.cons (.tmp rfl) (.cons .const .nil))) (nd_ok _ _) (.inl rfl) (fun k102 x102 o102 h102 => ?_) (fun k102 => ?_)
    rotate_left
    · skip
      refine thenQ.p (thenQ.p (blkQ.p (thenQ.p ?_)))
      exact ⟨_, selP [.k, .k] _, _, rfl, rfl, sel_perm [.k, .k] _, PlR.er (c := 84) (by rw [pe22, if_neg (by simp [kindsB] at k89; omega), if_pos (by simp at k102; omega)]) (by decide)⟩
    obtain ⟨rfl, rfl⟩ := h102
    refine JL.nil ?_
    refine thenQ.n ⟨[_], _, rfl, rfl, rfl, rfl, rfl, Reown.mrgN 2 rfl rfl, ⟨rfl, rfl⟩, trivial, ?_⟩
    refine JX.conv (S' := [12, 11, 10, 9, 8, 7, 6, 5, 4, 3, 2, 1, 0]) rfl (by (try simp only [lvM]); rfl) (by (try simp only [vlF, bxF, tkM, lvM, Flt.val, Flt.bx, nx, nl, stepsO, valO, nthO, curO, mrg, AV.cellsOf, splice_zero, splice_succ, Nat.reduceAdd]); rfl) ?_
    refine JX.fin (by kernel_rfl) (by kernel_rfl) fun bs_ => ?_
    refine QX.conv (by (try simp only [vlF, bxF, tkM, lvM, Flt.val, Flt.bx, nx, nl, stepsO, valO, nthO, curO, mrg, AV.cellsOf, splice_zero, splice_succ, Nat.reduceAdd]); rfl) ?_
    refine thenQ.n (J.seq (J.regionX mixed (Zf 0 [] rfl (fun _ => QW.move (.tmp rfl)) (Zf 1 [103] rfl (fun _ => QW.index_sl sl24 ty26 rfl (.tmp rfl) .const rfl rfl) (Zf 2 [104] rfl (fun _ => QW.field_ref fo26_2 (.tmp rfl) rfl) (Zf 3 [105] rfl (fun _ => QW.load_ref1 ty9 (.tmp rfl) (V.cs_2 _ _)) (Zf 4 [] rfl (fun _ => QW.move (.tmp rfl)) (Zf 5 [107] rfl (fun _ => QW.index_sl sl24 ty26 rfl (.tmp rfl) .const rfl rfl) (Zf 6 [108] rfl (fun _ => QW.field_ref fo26_2 (.tmp rfl) rfl) ?_)))))))))
    refine Zf 7 [109] rfl (fun _ => QW.load_ref1 ty9 (.tmp rfl) (V.cs_2 _ _)) (Zf 8 [106, 110] rfl (fun _ => QW.add_s (.tmp rfl) (.tmp rfl) (by omega)) (Zf 9 [111] rfl (fun _ => QW.build (idx := [0, 2]) pl26 z26 rfl (.cons .const (.cons (.tmp rfl) .nil)) rfl rfl rfl rfl) (JX.one 10 [true, true, true, true, true, true, true, true, true, true] rfl (by kernel_rfl) (by kernel_rfl) rfl rfl (by kernel_rfl) rfl fun bs10_ pe_ ex_ => ?_)))
    refine JL.conv (by (try simp only [vlF, bxF, tkM, lvM, Flt.val, Flt.bx, nx, nl, stepsO, valO, nthO, curO, mrg, AV.cellsOf, splice_zero, splice_succ, Nat.reduceAdd]); rfl) ?_
    refine JL.store_boxF 0 ty26 (.tmp rfl) rfl (.tmp rfl) rfl rfl rfl rfl (JL.nil ?_)
    refine thenQ.n ⟨[], _, rfl, rfl, rfl, rfl, rfl, Reown.tkN 2 rfl, trivial, trivial, ?_⟩
    refine JX.conv (S' := [10, 9, 8, 7, 6, 5, 4, 3, 2, 1, 0]) rfl (by (try simp only [lvM]); rfl) (by (try simp only [vlF, bxF, tkM, lvM, Flt.val, Flt.bx, nx, nl, stepsO, valO, nthO, curO, mrg, AV.cellsOf, splice_zero, splice_succ, Nat.reduceAdd]); rfl) ?_
    refine JX.fin (by kernel_rfl) (by kernel_rfl) fun bs_ => ?_
    refine QX.conv (by (try simp only [vlF, bxF, tkM, lvM, Flt.val, Flt.bx, nx, nl, stepsO, valO, nthO, curO, mrg, AV.cellsOf, splice_zero, splice_succ, Nat.reduceAdd]); rfl) ?_
    exact thenQ.n (J.ret (blkQ.r (thenQ.r (Zr [.k, .k] (RetEv.one rfl (REv.cell 0 ty26 rfl rfl rfl rfl (.aggL (.cons lr (.cons lr (.cons lr (.cons (.nil false false _) (.cons (.nil false false _) .nil)))))))) rfl (PlR.ok (v := .tx (a.text ++ b.text)) (by rw [pe22, if_neg (by simp [kindsB] at k89; omega), if_neg (by simp at k102; omega)]))))))
  have n22 : ¬ o = 22 := by simpa using c9
  refine Zs (Zq rfl (QW.eql (.tmp rfl) .const) (Zq rfl (QW.assign (.tmp rfl)) (Zn ?_)))
  refine J.cond (.tmp rfl) (fun c10 => ?_) (fun c10 => ?_)
  · skip
    obtain rfl : o = 26 := by simpa using c10
    obtain ⟨a, rfl⟩ := one_of (l := l) (by omega)
    have ha := hl a (by simp)
    refine Zs (Zq rfl (QW.move (.tmp rfl)) (Zq rfl (QW.buildSlice (idx := [0]) (xs := intsAV [2]) sl177 el3 z3 rfl (.cons .const .nil) rfl rfl rfl rfl rfl rfl rfl rfl rfl) ?_))
    refine JL.callPF [] gofn110 rfl Lent.nil (fun _ => (.cons (.tmp rfl) (.cons (.tmp rfl) .nil))) (kinds_ok _ [2] (by simp) (by simp)) (.inl rfl) (fun k117 x117 o117 h117 => ?_) (fun k117 => ?_)
    rotate_left
    · skip
      refine thenQ.p (blkQ.p (thenQ.p ?_))
      exact ⟨_, selP [.k, .k] _, _, rfl, rfl, sel_perm [.k, .k] _, PlR.er (c := 81) ((pe26 t a).trans (if_pos (by simpa [kindsB] using k117))) (by decide)⟩
    obtain ⟨rfl, rfl⟩ := h117
    refine Zn (Zs (Zq rfl (QW.move (.tmp rfl)) (Zq rfl (QW.index_sl sl24 ty26 rfl (.tmp rfl) .const rfl rfl) (Zq rfl (QW.field_ref fo26_1 (.tmp rfl) rfl) (Zq rfl (QW.load_ref1 ty22 (.tmp rfl) (V.cs_1 _ _)) (Zq rfl (QW.call gofn115 (.cons (.tmp rfl) .nil) (digits_ok _ ha.bits)) (Zq rfl (QW.move (.tmp rfl)) (Zq rfl (QW.extract (.tmp rfl) rfl) (Zq rfl (QW.extract (.tmp rfl) rfl) ?_)))))))))
    refine Zq rfl (QW.assign (.tmp rfl)) (Zq rfl (QW.assign (.tmp rfl)) (Zn (Zs (Zq rfl (QW.move (.tmp rfl)) (Zq rfl (QW.eql (.tmp rfl) .const) (Zq rfl (QW.move (.tmp rfl)) ?_))))))
    refine JL.callPF [] gofn95 rfl Lent.nil (fun _ => (.cons (.tmp rfl) (.cons (.tmp rfl) .nil))) (nd_ok _ _) (.inl rfl) (fun k129 x129 o129 h129 => ?_) (fun k129 => ?_)
    rotate_left
    · skip
      refine thenQ.p (blkQ.p (thenQ.p ?_))
      have h7 : ¬ intE a.bits = 0 := fun h => k129 (by simp [h])
      exact ⟨_, selP [.k, .k] _, _, rfl, rfl, sel_perm [.k, .k] _, PlR.er (c := if intE a.bits = 0 then 0 else 7) (by rw [pe26, if_neg (by simpa [kindsB] using k117), if_pos h7, if_neg h7]) (by rw [if_neg h7]; decide)⟩
    obtain ⟨rfl, rfl⟩ := h129
    refine Zn (Zs (Zq rfl (QW.move (.tmp rfl)) (Zq rfl (QW.build (idx := [0, 2]) pl26 z26 rfl (.cons .const (.cons (.tmp rfl) .nil)) rfl rfl rfl rfl) (JL.store_boxF 0 ty26 (.tmp rfl) rfl (.tmp rfl) rfl rfl rfl rfl (Zn (J.ret (blkQ.r (thenQ.r ?_))))))))
    have h7 : intE a.bits = 0 := Decidable.byContradiction fun h => by simp [h] at k129
    exact Zr [.k, .k] (RetEv.one rfl (REv.cell 0 ty26 rfl rfl rfl rfl (.aggL (.cons lr (.cons lr (.cons lr (.cons (.nil false false _) (.cons (.nil false false _) .nil)))))))) rfl (PlR.ok (v := .tx (if intE a.bits = 0 then intD (intV a.bits) else [])) (by rw [pe26, if_neg (by simpa [kindsB] using k117), if_neg (by simp [h7]), if_pos h7]))
  have n26 : ¬ o = 26 := by simpa using c10
  refine J.skip (blkQ.n (thenQ.n (Zs (Zq rfl (QW.load_box 1 ty79 (.tmp rfl) rfl rfl rfl) (Zq rfl (QW.move (.tmp rfl)) ?_)))))
  refine JL.callPF [] gofn116 rfl Lent.nil (fun _ => (.cons (.tmp rfl) (.cons (.tmp rfl) .nil))) (lists_ok Xc.mk ht hl ⟨hn8, by omega⟩) (.inl rfl) (fun k134 x134 o134 h134 => ?_) (fun k134 => ?_)
  rotate_left
  · skip
    refine thenQ.p ?_
    exact ⟨_, selP [.k, .k] _, _, rfl, rfl, sel_perm [.k, .k] _, PanR.pan k134⟩
  obtain ⟨v134, hv134, rfl, rfl⟩ := h134
  exact JL.store_boxF 0 ty26 (.tmp rfl) rfl (.tmp rfl) rfl vl rfl rfl (Zn (J.ret (Zr [.k, .k] (RetEv.one rfl (REv.cell 0 ty26 rfl rfl (take_at vl rfl) vl lr)) rfl (PlR.ok hv134))))
end Go.Proofs.YtmccnmahegbmpaaGreat.J

/- Two loud operations that no order binds. -/
namespace Go.Proofs.YtmccnmahegbmpaaGreat.J
open Go Go.RowKit
def blk2B (l : List Oper) (S Φ : List Nat) (i1 i2 : Nat) : Bool := (List.range l.length).all fun j => memB j S || memB j Φ || (Nat.beq j i1 || Nat.beq j i2) || (match l[j]? with
  | some o => o.after.toList.any fun e => Region.binds .any e && !memB e.on S && !memB e.on Φ
  | none => true)
section
variable {P : Program} {E : Ent} {Q : Exit → St → Prop} {n : Nat} {env : List (Nat × AV)} {own : List Own} {F : List (Value × AV)} {D : List Deferred} {ops : Array Oper}
theorem Ev.constA {st : St} {vs : List Value} (h : vs.all (·.oneCell') = true) : Ev E st (.const (.agg vs.toArray)) (.agg (vs.map .c)) := fun A a w _ =>
  .agg _ _ (fun k => vs.getD k undef) (by simp) (fun k y hk => by
    rw [List.getElem?_map] at hk
    obtain ⟨z, hz, rfl⟩ := Option.map_eq_some_iff.1 hk
    have := (List.all_eq_true.1 h) z (List.mem_of_getElem? hz)
    exact ⟨by simp [hz, List.getD], by simpa [hz, List.getD] using this⟩) (fun k y hk => by
    rw [List.getElem?_map] at hk
    obtain ⟨z, hz, rfl⟩ := Option.map_eq_some_iff.1 hk
    rw [show vs.getD k undef = z by simp [hz, List.getD]]; exact .c z)
def CandX (P : Program) (E : Ent) (Q : Exit → St → Prop) (n : Nat) (env : List (Nat × AV)) (own : List Own) (F : List (Value × AV)) (D : List Deferred) (ops : Array Oper) (S : List Nat) (Φ : List Flt) (i : Nat) : Prop :=
  ∃ (ms : List Bool) (o : Oper), ops[i]? = some o ∧ memB i S = false ∧ memB i (Φ.map (·.i)) = false ∧ lndB ops.toList o [] ((tkM ms Φ).map (·.i)) = true ∧ (lvM ms Φ).all (·.fre) = true ∧
    ∀ bs pe ex, JL P E ops [o] ⟨n, vlF bs (tkM ms Φ) ++ (env ++ pe), own ++ (bxF bs (tkM ms Φ) ++ ex), F, D⟩ (thenQ (fun s => ∃ ev env' own', s.n = n ∧ s.env = env' ++ pe ∧ s.facts = F ∧ s.dfs = D ∧ env' = ev ++ (vlF bs (tkM ms Φ) ++ env) ∧ ev.all (fun p => o.dst == some p.1) = true ∧ Reown s.own (own' ++ ex) ∧
      (match o.dst with | some d => (Φ.all fun φ => !Nat.beq φ.d d) = true ∧ lk env d = none | none => True) ∧ okO own' (lvM ms Φ) ∧ JX P E ops (i :: ((tkM ms Φ).map (·.i) ++ S)) (lvM ms Φ) ⟨n, env', own', F, D⟩ Q) Q)
theorem CandX.mk {S : List Nat} {Φ : List Flt} (i : Nat) (ms : List Bool) {o : Oper} (ho : ops[i]? = some o) (hS : memB i S = false) (hΦ : memB i (Φ.map (·.i)) = false)
    (hlnd : lndB ops.toList o [] ((tkM ms Φ).map (·.i)) = true) (hfre : (lvM ms Φ).all (·.fre) = true)
    (h : ∀ bs pe ex, JL P E ops [o] ⟨n, vlF bs (tkM ms Φ) ++ (env ++ pe), own ++ (bxF bs (tkM ms Φ) ++ ex), F, D⟩ (thenQ (fun s => ∃ ev own', s.n = n ∧ s.env = ev ++ (vlF bs (tkM ms Φ) ++ (env ++ pe)) ∧ s.facts = F ∧ s.dfs = D ∧ ev.all (fun p => o.dst == some p.1) = true ∧ Reown s.own (own' ++ ex) ∧
      (match o.dst with | some d => (Φ.all fun φ => !Nat.beq φ.d d) = true ∧ lk env d = none | none => True) ∧ okO own' (lvM ms Φ) ∧ JX P E ops (i :: ((tkM ms Φ).map (·.i) ++ S)) (lvM ms Φ) ⟨n, ev ++ (vlF bs (tkM ms Φ) ++ env), own', F, D⟩ Q) Q)) : CandX P E Q n env own F D ops S Φ i :=
  ⟨ms, o, ho, hS, hΦ, hlnd, hfre, fun bs pe ex a w hs => by
    have := h bs pe ex a w hs
    refine wpListIn_monoN this fun a' w' ⟨s, ⟨ev, own', h1, h2, h3, h4, h5, h6, h7, h8, h9⟩, hs'⟩ => ⟨s, ⟨ev, _, own', h1, by rw [h2]; simp, h3, h4, rfl, h5, h6, h7, h8, h9⟩, hs'⟩⟩
theorem jxPair {S : List Nat} {Φ : List Flt} (i1 i2 : Nat) (hbk : backB 0 ops.toList = true) (hblk : blk2B ops.toList S (Φ.map (·.i)) i1 i2 = true) (h1 : CandX P E Q n env own F D ops S Φ i1) (h2 : CandX P E Q n env own F D ops S Φ i2) :
    JX P E ops S Φ ⟨n, env, own, F, D⟩ Q := fun hw hF => by
  have hall : ∀ i, i = i1 ∨ i = i2 → CandX P E Q n env own F D ops S Φ i := fun i h => h.elim (fun e => e ▸ h1) (fun e => e ▸ h2)
  obtain ⟨ms0, o0, ho0, hS0, hΦ0, -, -, -⟩ := h1
  have hlt0 : i1 < ops.size := (Array.getElem?_eq_some_iff.1 ho0).1
  intro fuel
  induction fuel with
  | zero =>
    intro L bs A a w hc hcf
    exfalso
    have hi : L.getD i1 true = false := by
      rw [getD_same (by rw [hcf.size]; exact hlt0)]
      exact hcf.no i1 (fun h => by rw [memB_iff.2 h] at hS0; cases hS0) fun φ hφ he => by rw [memB_iff.2 (List.mem_map.2 ⟨φ, hφ, he⟩)] at hΦ0; cases hΦ0
    have := List.countP_eq_zero.1 (Nat.le_zero.1 hc) i1 (by simpa using hlt0)
    simp [hi] at this
  | succ fuel ih =>
    intro L bs A a w hc hcf
    have hundone : L.getD i1 false = false := hcf.no i1 (fun h => by rw [memB_iff.2 h] at hS0; cases hS0) fun φ hφ he => by rw [memB_iff.2 (List.mem_map.2 ⟨φ, hφ, he⟩)] at hΦ0; cases hΦ0
    refine ⟨fun hr => ?_, fun j hj => ?_⟩
    · exfalso
      have key : ∀ j, j < ops.size → L.getD j false = true := by
        intro j
        induction j using Nat.strongRecOn with
        | _ j ihj =>
          intro hjl
          cases hL : L.getD j false with
          | true => rfl
          | false =>
            exfalso
            obtain ⟨oj, hoj⟩ : ∃ oj, ops[j]? = some oj := ⟨_, Array.getElem?_eq_getElem hjl⟩
            have : j ∈ Region.ready .any ops L := ready_mem hcf.size hoj (by rw [getD_same (by rw [hcf.size]; exact hjl)]; exact hL) fun e he hb => by
              have hon := backB_lt hbk (i := j) (o := oj) (by simpa using hoj) e he hb
              exact ihj e.on (by omega) (by omega)
            rw [hr] at this
            cases this
      rw [key i1 hlt0] at hundone; cases hundone
    · obtain ⟨hjl, oj, hoj, hunj, hdeps⟩ := mem_ready hj
      have hunj' : L.getD j false = false := by rw [← getD_same (by rw [hcf.size]; exact hjl)]; exact hunj
      by_cases hjΦ : ∃ φ ∈ Φ, φ.i = j
      · obtain ⟨φ, hφ, rfl⟩ := hjΦ
        exact hcf.run hw hF hφ hunj' hjl (fun o' ho' => by rw [hoj] at ho'; cases ho'; exact hdeps) fun bs' A' a' w' hcf' => ih _ bs' A' a' w' (cnt_run hcf.size hjl hunj hc) hcf'
      · have hji : j = i1 ∨ j = i2 := by
          by_cases he : j = i1 ∨ j = i2
          · exact he
          · exfalso
            have h1 := List.all_eq_true.1 hblk j (by simpa using hjl)
            have h2 : memB j S = false := by
              cases hb : memB j S with
              | false => rfl
              | true => rw [hcf.yes j (memB_iff.1 hb)] at hunj'; cases hunj'
            have h3 : memB j (Φ.map (·.i)) = false := by
              cases hb : memB j (Φ.map (·.i)) with
              | false => rfl
              | true =>
                obtain ⟨φ, hφ, hφi⟩ := List.mem_map.1 (memB_iff.1 hb)
                exact absurd ⟨φ, hφ, hφi⟩ hjΦ
            have h4 : (Nat.beq j i1 || Nat.beq j i2) = false := by
              cases hb : (Nat.beq j i1 || Nat.beq j i2) with
              | false => rfl
              | true => exact absurd ((Bool.or_eq_true _ _ ▸ hb).imp Nat.eq_of_beq_eq_true Nat.eq_of_beq_eq_true) he
            have h5 : ops.toList[j]? = some oj := by simpa using hoj
            rw [h2, h3, h4, h5] at h1
            simp only [Bool.false_or] at h1
            obtain ⟨e, he, hb⟩ := List.any_eq_true.1 h1
            simp only [Bool.and_eq_true, Bool.not_eq_true'] at hb
            have h6 := hdeps e (by simpa using he) hb.1.1
            rw [hcf.no e.on (fun h => by rw [memB_iff.2 h] at hb; simp at hb) fun φ hφ hφi => by
              have := hb.2
              rw [memB_iff.2 (List.mem_map.2 ⟨φ, hφ, hφi⟩)] at this; cases this] at h6
            cases h6
        obtain ⟨ms, o, ho, hS, hΦ, hlnd, hfre, h⟩ := hall j hji
        have hp := tl_perm ms Φ
        have hlt := hjl
        have hoo : o = oj := by rw [ho] at hoj; cases hoj; rfl
        rw [← hoo] at hdeps
        clear hoj
        -- what it waits for has been done
        have hland : ∀ φ ∈ tkM ms Φ, L.getD φ.i false = true := fun φ hφ => lndB_done hcf.clo hdeps _ _ (fun o' h => by cases h) hlnd φ.i (List.mem_map.2 ⟨φ, hφ, rfl⟩)
        have hmem : ∀ φ, φ ∈ Φ ↔ φ ∈ tkM ms Φ ∨ φ ∈ lvM ms Φ := fun φ => by rw [hp.mem_iff, List.mem_append]
        obtain ⟨pe, hpe⟩ : ∃ pe, pe = vlF bs ((lvM ms Φ).filter fun φ => L.getD φ.i false) := ⟨_, rfl⟩
        have hndd : ((tkM ms Φ ++ lvM ms Φ).map (·.d)).Nodup := (hp.map _).nodup_iff.1 hw.ndd
        rw [List.map_append, List.nodup_append] at hndd
        have hnd : ((tkM ms Φ ++ lvM ms Φ).map (·.i)).Nodup := (hp.map _).nodup_iff.1 hw.nd
        rw [List.map_append, List.nodup_append] at hnd
        have hsat0 : SatA E A ⟨n, vlF bs (tkM ms Φ) ++ (env ++ pe), own ++ (bxF bs (tkM ms Φ) ++ exF L bs (lvM ms Φ)), F, D⟩ a w := by
          have h1 := hcf.sat.perm (List.Perm.append_left own ((exF_perm (L := L) (bs := bs) hp).trans (by rw [exF_append, exF_done hland])))
          refine ⟨h1.size, h1.defers, h1.keep, h1.hp, fun s x hl => ?_, h1.facts⟩
          rcases lk_vlF hl with ⟨φ, hφ, rfl, rfl⟩ | hl
          · exact hcf.val φ ((hmem φ).2 (.inl hφ)) (hland φ hφ)
          · rw [lk_append] at hl
            rcases hl with hl | ⟨_, hl⟩
            · exact hcf.sat.env s x hl
            · rw [hpe] at hl
              rcases lk_vlF (env := []) (by rw [List.append_nil]; exact hl) with ⟨φ, hφ, rfl, rfl⟩ | hl
              · rw [List.mem_filter] at hφ
                exact hcf.val φ ((hmem φ).2 (.inr hφ.1)) hφ.2
              · simp [lk] at hl
        have hl := h bs pe (exF L bs (lvM ms Φ)) a w ⟨A, hsat0⟩
        have hK : ∀ a' w', wpListIn (fen E.rd) 0 P ops (lift E (thenQ (fun s => ∃ ev env' own', s.n = n ∧ s.env = env' ++ pe ∧ s.facts = F ∧ s.dfs = D ∧ env' = ev ++ (vlF bs (tkM ms Φ) ++ env) ∧ ev.all (fun p => o.dst == some p.1) = true ∧ Reown s.own (own' ++ exF L bs (lvM ms Φ)) ∧
            (match o.dst with | some d => (Φ.all fun φ => !Nat.beq φ.d d) = true ∧ lk env d = none | none => True) ∧ okO own' (lvM ms Φ) ∧ JX P E ops (j :: ((tkM ms Φ).map (·.i) ++ S)) (lvM ms Φ) ⟨n, env', own', F, D⟩ Q) Q)) [] a' w' → wpAnyIn (fen E.rd) 0 P .any ops (lift E Q) fuel (L.setIfInBounds j true) a' w' := by
          rintro a' w' ⟨⟨n', env2, own2, F', D'⟩, ⟨ev, env', own', rfl, rfl, rfl, rfl, rfl, hev, hre, hdd, hoO, hX⟩, A', hsA⟩
          have hevd : ∀ s x, lk ev s = some x → o.dst = some s := fun s x hl' => by
            have := List.all_eq_true.1 hev _ (lk_mem _ _ _ hl')
            simpa using this
          have hlts : j < L.size := by rw [hcf.size]; exact hlt
          have hset : ∀ z, (L.setIfInBounds j true).getD z false = if z = j then true else L.getD z false := fun z => getD_set _ _ _ hlts _
          have hnot : ∀ φ ∈ Φ, φ.i ≠ j := fun φ hφ he => by rw [memB_iff.2 (List.mem_map.2 ⟨φ, hφ, he⟩)] at hΦ; cases hΦ
          have hevΦ : ∀ φ ∈ Φ, lk ev φ.d = none := fun φ hφ => by
            cases hle : lk ev φ.d with
            | none => rfl
            | some x =>
              have hd' := hevd _ _ hle
              rw [hd'] at hdd
              have := List.all_eq_true.1 hdd.1 φ hφ
              simp at this
          have hold : ∀ s y, lk env s = some y → lk (ev ++ (vlF bs (tkM ms Φ) ++ env)) s = some y := fun s y hl' => by
            rw [lk_append]
            have h1 : lk ev s = none := by
              cases hle : lk ev s with
              | none => rfl
              | some x =>
                have hd' := hevd _ _ hle
                rw [hd'] at hdd
                simp only at hdd
                rw [hdd.2] at hl'; cases hl'
            refine .inr ⟨h1, ?_⟩
            rw [lk_vlF_none fun φ hφ he => ?_]
            · exact hl'
            · rw [← he, hw.ne φ ((hmem φ).2 (.inl hφ))] at hl'; cases hl'
          have hexs : exF (L.setIfInBounds j true) bs (lvM ms Φ) = exF L bs (lvM ms Φ) := exF_congr fun φ hφ => ⟨by rw [hset, if_neg (hnot φ ((hmem φ).2 (.inr hφ)))], rfl⟩
          refine hX ⟨hnd.2.1, hndd.2.1, fun φ hφ hm => ?_, fun φ hφ => ?_⟩ (fun φ hφ => ?_) fuel _ bs A' a' w' (cnt_run hcf.size hlt hunj hc) ⟨by simpa using hcf.size, fun z hz => ?_, fun z hz1 hz2 => ?_, fun z oz hoz hLz e he hb => ?_, ?_, fun φ hφ hLφ => ?_⟩
          · rcases List.mem_cons.1 hm with hm | hm
            · exact hnot φ ((hmem φ).2 (.inr hφ)) hm
            · rcases List.mem_append.1 hm with hm | hm
              · exact hnd.2.2 _ hm _ (List.mem_map.2 ⟨φ, hφ, rfl⟩) rfl
              · exact hw.ns φ ((hmem φ).2 (.inr hφ)) hm
          · have hφΦ := (hmem φ).2 (.inr hφ)
            show lk (ev ++ (vlF bs (tkM ms Φ) ++ env)) φ.d = none
            cases hle : lk (ev ++ (vlF bs (tkM ms Φ) ++ env)) φ.d with
            | none => rfl
            | some y =>
              rw [lk_append] at hle
              rcases hle with hle | ⟨_, hle⟩
              · rw [hevΦ φ hφΦ] at hle; cases hle
              · rw [lk_vlF_none fun ψ hψ he => hndd.2.2 _ (List.mem_map.2 ⟨ψ, hψ, rfl⟩) _ (List.mem_map.2 ⟨φ, hφ, rfl⟩) he] at hle
                rw [hw.ne φ hφΦ] at hle; cases hle
          · obtain ⟨o', ho', hd', hdn', hm'⟩ := hF φ ((hmem φ).2 (.inr hφ))
            refine ⟨o', ho', hd', hdn', ?_⟩
            split at hm'
            · exact hm'
            · obtain ⟨e, he, _, hs⟩ := hm'
              refine ⟨e, fun s y hl' => ?_, okO_get hoO φ hφ, fun own2 _ hO2 => hs own2 (fun hf => ?_) hO2⟩
              · rcases he s y hl' with h1 | ⟨ψ, hψ, rfl, hψv, hψd⟩
                · exact .inl (hold s y h1)
                · rcases (hmem ψ).1 hψ with hψ' | hψ'
                  · left
                    rw [lk_append]
                    refine .inr ⟨hevΦ ψ hψ, ?_⟩
                    rw [lk_vlF_mem hndd.1 hψ']
                    unfold Flt.val
                    rw [hψv]
                  · exact .inr ⟨ψ, hψ', rfl, hψv, hψd⟩
              · have := List.all_eq_true.1 hfre φ hφ
                rw [hf] at this; cases this
          · rw [hset]
            split
            · rfl
            · rename_i hne
              rcases List.mem_cons.1 hz with hz | hz
              · exact absurd hz hne
              · rcases List.mem_append.1 hz with hz | hz
                · obtain ⟨φ, hφ, rfl⟩ := List.mem_map.1 hz
                  exact hland φ hφ
                · exact hcf.yes z hz
          · rw [hset, if_neg (fun h => hz1 (by simp [h]))]
            refine hcf.no z (fun h => hz1 (by simp [h])) fun φ hφ he => ?_
            rcases (hmem φ).1 hφ with h' | h'
            · exact hz1 (by rw [← he]; exact List.mem_cons_of_mem _ (List.mem_append_left _ (List.mem_map.2 ⟨φ, h', rfl⟩)))
            · exact hz2 φ h' he
          · rw [hset] at hLz ⊢
            split
            · rfl
            · by_cases hzj : z = j
              · subst hzj; rw [ho] at hoz; cases hoz; exact hdeps e he hb
              · rw [if_neg hzj] at hLz; exact hcf.clo z oz hoz hLz e he hb
          · rw [hexs]
            exact ⟨hsA.size, hsA.defers, hsA.keep, hsA.hp.reown hre, fun s y hl' => hsA.env s y (by rw [lk_append]; exact .inl hl'), hsA.facts⟩
          · rw [hset, if_neg (hnot φ ((hmem φ).2 (.inr hφ)))] at hLφ
            refine hsA.env φ.d (φ.val bs) ?_
            have hφΦ := (hmem φ).2 (.inr hφ)
            rw [lk_append]
            refine .inr ⟨?_, ?_⟩
            · show lk (ev ++ (vlF bs (tkM ms Φ) ++ env)) φ.d = none
              cases hle : lk (ev ++ (vlF bs (tkM ms Φ) ++ env)) φ.d with
              | none => rfl
              | some y =>
                rw [lk_append] at hle
                rcases hle with hle | ⟨_, hle⟩
                · rw [hevΦ φ hφΦ] at hle; cases hle
                · rw [lk_vlF_none fun ψ hψ he => hndd.2.2 _ (List.mem_map.2 ⟨ψ, hψ, rfl⟩) _ (List.mem_map.2 ⟨φ, hφ, rfl⟩) he] at hle
                  rw [hw.ne φ hφΦ] at hle; cases hle
            · rw [hpe]
              have := lk_vlF_mem (bs := bs) (env := []) (Φ := (lvM ms Φ).filter fun φ => L.getD φ.i false) (φ := φ) ((List.filter_sublist.map _).nodup hndd.2.1) (List.mem_filter.2 ⟨hφ, hLφ⟩)
              rwa [List.append_nil] at this
        unfold wpOpIn
        simp only [ho]
        unfold wpListIn at hl
        split
        · rename_i hw'
          rw [if_pos hw'] at hl
          exact Oper.wpIn_monoQ (fun ch a w h => lift_q (by intro h; cases h) h) (fun h => by first | exact fun a w => lift_q (by intro h; cases h) (h a w) | exact h) (Oper.wpIn_mono hK hl)
        · rename_i hw'
          rw [if_neg hw'] at hl
          exact ⟨hl.1, hK _ _ hl.2⟩
end
end Go.Proofs.YtmccnmahegbmpaaGreat.J

/- Walks: the machine: what an expression tells, items of a list. -/
namespace Go.Proofs.YtmccnmahegbmpaaGreat.J
open Go Go.RowKit
set_option maxRecDepth 10000
set_option maxHeartbeats 4000000
def mb (b : Nat) (s : ScT) (f : Int) : Own := .box b (s.st.cs false ++ s.ev.cs false ++ s.it.cs false ++ [.c (.int .i64 f)])
theorem mb_at {s : ScT} {f : Int} (k : Nat) (h : k ≤ 2 := by decide) : ((s.st.cs false ++ s.ev.cs false ++ s.it.cs false ++ [AV.c (.int .i64 f)]).drop (5 * k)).take 5 = (match k with | 0 => s.st | 1 => s.ev | _ => s.it).cs false := by
  obtain ⟨⟨k1, b1, t1, ks1, is1⟩, ⟨k2, b2, t2, ks2, is2⟩, ⟨k3, b3, t3, ks3, is3⟩⟩ := s
  match k, h with
  | 0, _ => rfl
  | 1, _ => rfl
  | 2, _ => rfl
theorem mb_fuel {s : ScT} {f : Int} : (s.st.cs false ++ s.ev.cs false ++ s.it.cs false ++ [AV.c (.int .i64 f)])[15]? = some (.c (.int .i64 f)) := by
  obtain ⟨⟨k1, b1, t1, ks1, is1⟩, ⟨k2, b2, t2, ks2, is2⟩, ⟨k3, b3, t3, ks3, is3⟩⟩ := s; rfl
theorem mb_len {s : ScT} {f : Int} : (s.st.cs false ++ s.ev.cs false ++ s.it.cs false ++ [AV.c (.int .i64 f)]).length = 16 := by
  simp [V.cs_length]
theorem mb_setf {s : ScT} {f g : Int} : splice (s.st.cs false ++ s.ev.cs false ++ s.it.cs false ++ [AV.c (.int .i64 f)]) 15 [.c (.int .i64 g)] = s.st.cs false ++ s.ev.cs false ++ s.it.cs false ++ [AV.c (.int .i64 g)] := by
  obtain ⟨⟨k1, b1, t1, ks1, is1⟩, ⟨k2, b2, t2, ks2, is2⟩, ⟨k3, b3, t3, ks3, is3⟩⟩ := s; rfl
theorem mb_setit {s : ScT} {f : Int} {x : V} : splice (s.st.cs false ++ s.ev.cs false ++ s.it.cs false ++ [AV.c (.int .i64 f)]) 10 (x.cs false) = s.st.cs false ++ s.ev.cs false ++ x.cs false ++ [AV.c (.int .i64 f)] := by
  obtain ⟨⟨k1, b1, t1, ks1, is1⟩, ⟨k2, b2, t2, ks2, is2⟩, ⟨k3, b3, t3, ks3, is3⟩⟩ := s
  obtain ⟨k4, b4, t4, ks4, is4⟩ := x; rfl
def pb (b : Nat) : AV := .c (.pointer (some ⟨b, 0, none⟩))
def okF (f : Int) : Prop := 0 ≤ f ∧ f ≤ 4611686018427387904
def EvR (r : ER V) (b : Nat) (s : ScT) : Res → List Own → Prop := PanR (errE r = 0) (errV (errE r)) fun x o => ∃ v f', r = .ok (v, f') ∧ x = .agg (v.cs false) ∧ o = [mb b s f']
def TrR (r : ER Bool) (b : Nat) (s : ScT) : Res → List Own → Prop := PanR (errE r = 0) (errV (errE r)) fun x o => ∃ t f', r = .ok (t, f') ∧ x = .c (.bool t) ∧ o = [mb b s f']
theorem EvR.ok {r : ER V} {b : Nat} {s : ScT} {v : V} {f' : Int} (h : r = .ok (v, f')) : EvR r b s (.ret (.agg (v.cs false))) [mb b s f'] := .inl ⟨by rw [h]; rfl, _, rfl, v, f', h, rfl, rfl⟩
theorem EvR.er {r : ER V} {b : Nat} {s : ScT} {c : Int} (h : r = .error c) (hc : ¬ c = 0) : EvR r b s (.pan (.iface 33 (.int .i64 c))) [] := .inr ⟨by rw [h]; exact hc, by rw [h]; rfl, rfl⟩
theorem TrR.ok {r : ER Bool} {b : Nat} {s : ScT} {t : Bool} {f' : Int} (h : r = .ok (t, f')) : TrR r b s (.ret (.c (.bool t))) [mb b s f'] := .inl ⟨by rw [h]; rfl, _, rfl, t, f', h, rfl, rfl⟩
theorem TrR.er {r : ER Bool} {b : Nat} {s : ScT} {c : Int} (h : r = .error c) (hc : ¬ c = 0) : TrR r b s (.pan (.iface 33 (.int .i64 c))) [] := .inr ⟨by rw [h]; exact hc, by rw [h]; rfl, rfl⟩
theorem er_of {α : Type} {r : Except Int α} (h : ¬ errE r = 0) : r = .error (errE r) := by
  cases r with
  | ok _ => exact absurd rfl h
  | error c => rfl
def EvIH (n : Nat) : Prop := ∀ (e : EX) (s : ScT) (f : Int) (b : Nat) (fr : Bool), e.wf → e.Fine → s.good → okF f → e.sz ≤ n → AC Tryz.prog 87 [mb b s f] [pb b, .agg (e.cs fr)] (EvR (e.ev s f) b s)
theorem truE_er {r : ER V} {c : Int} (h : r = .error c) : truE r = .error c := by rw [h]; rfl
theorem truE_no {r : ER V} {v : V} {f : Int} (h : r = .ok (v, f)) (hk : ¬ v.kind = 1) : truE r = .error 81 := by rw [h]; exact if_neg hk
theorem truE_yes {r : ER V} {v : V} {f : Int} (h : r = .ok (v, f)) (hk : v.kind = 1) : truE r = .ok (v.bits == 1, f) := by rw [h]; exact if_pos hk
def itE {β : Type} (stp : β → V → Int → Except Int (Bool × β × Int)) : List V → β → Int → Except Int (β × Int)
  | [], σ, f => .ok (σ, f)
  | x :: r, σ, f => match stp σ x f with
    | .error e => .error e
    | .ok (k, σ', f') => if k then itE stp r σ' f' else .ok (σ', f')
def itemsE {β : Type} (stp : β → V → Int → Except Int (Bool × β × Int)) (σ : β) (r : ER V) : Except Int (β × Int) := match r with
  | .error e => .error e
  | .ok (v, f) => if v.kind ≠ 4 then .error 81 else itE stp v.items σ f
theorem itE_drop {β : Type} {stp : β → V → Int → Except Int (Bool × β × Int)} {l : List V} {j : Nat} (h : j < l.length) (σ : β) (f : Int) : itE stp (l.drop j) σ f = match stp σ l[j] f with
    | .error e => .error e
    | .ok (k, σ', f') => if k then itE stp (l.drop (j + 1)) σ' f' else .ok (σ', f') := by
  rw [List.drop_eq_getElem_cons h, itE]
theorem itE_bad {β : Type} {stp : β → V → Int → Except Int (Bool × β × Int)} {l : List V} {j : Nat} {σ : β} {f c : Int} (h : j < l.length) (hc : stp σ l[j] f = .error c) : itE stp (l.drop j) σ f = .error c := by rw [itE_drop h, hc]
theorem itE_ok {β : Type} {stp : β → V → Int → Except Int (Bool × β × Int)} {l : List V} {j : Nat} {σ σ' : β} {f f' : Int} {k : Bool} (h : j < l.length) (hc : stp σ l[j] f = .ok (k, σ', f')) : itE stp (l.drop j) σ f = if k then itE stp (l.drop (j + 1)) σ' f' else .ok (σ', f') := by rw [itE_drop h, hc]
theorem mtruth_ok {n : Nat} (ih : EvIH n) {e : EX} {s : ScT} {f : Int} {b : Nat} {fr : Bool} {ys : List AV} (he : Xc fr e ys) (hw : e.wf) (hf : e.Fine) (hs : s.good) (h0 : okF f) (hn : e.sz ≤ n) :
    AC Tryz.prog 98 [mb b s f] [pb b, .agg ys] (TrR (truE (e.ev s f)) b s) := by
  subst he
  refine AC.of_J Tryz.func98 rfl Tryz.ntmps98 rfl fun w0 A0 => ?_
  refine Zs (JL.box_agg (.tmp rfl) rfl fun b3 => Zq rfl (QW.assign .const) (Zn (Zs (Zq rfl (QW.move (.tmp rfl)) (Zq rfl (QW.load_box 0 ty79 (.tmp rfl) rfl (take_at xl rfl) xl) ?_)))))
  refine JL.callPF [.k, .p] gofn87 rfl Lent.nil (fun _ => (.cons (.tmp rfl) (.cons (.tmp rfl) .nil))) (ih e s f b fr hw hf hs h0 hn) (.inl rfl) (fun k8 x8 o8 h8 => ?_) (fun k8 => ?_)
  rotate_left
  · skip
    refine thenQ.p ?_
    exact ⟨_, selP [.k] _, _, rfl, rfl, sel_perm [.k] _, TrR.er (truE_er (er_of k8)) k8⟩
  obtain ⟨v8, f8, hv8, rfl, rfl⟩ := h8
  refine JL.alloc z26 rfl rfl fun b5 => JL.store_boxF 0 ty26 (.tmp rfl) rfl (.tmp rfl) rfl vl rfl rfl (Zn (Zs ?_))
  obtain ⟨vk, vb, vt, vks, vis⟩ := v8
  refine Zq rfl (QW.field_ptr fo26_0 (.tmp rfl) rfl) (Zq rfl (QW.load_box1 0 ty3 (.tmp rfl) rfl rfl) (Zq rfl (QW.eql (.tmp rfl) .const) ?_))
  refine JL.callPF [] gofn95 rfl Lent.nil (fun _ => (.cons (.tmp rfl) (.cons .const .nil))) (nd_ok _ _) (.inl rfl) (fun k12 x12 o12 h12 => ?_) (fun k12 => ?_)
  rotate_left
  · skip
    refine thenQ.p ?_
    exact ⟨_, selP [.k, .k, .k] _, _, rfl, rfl, sel_perm [.k, .k, .k] _, TrR.er (c := 81) (truE_no hv8 (by show ¬ vk = 1; simpa using k12)) (by decide)⟩
  obtain ⟨rfl, rfl⟩ := h12
  exact Zn (Zs (Zq rfl (QW.field_ptr fo26_1 (.tmp rfl) rfl) (Zq rfl (QW.load_box1 0 ty22 (.tmp rfl) rfl rfl) (Zq rfl (QW.eql (.tmp rfl) .const) (Zq rfl (QW.assign (.tmp rfl)) (Zn (J.ret (Zr [.k, .k, .p] (RetEv.one rfl (REv.tmp rfl lr)) rfl (TrR.ok ((truE_yes hv8 (by show vk = 1; simpa using k12)).trans (by rw [V.bits, show (((vb : Nat) : Int) == 1) = (vb == 1) by rw [Bool.eq_iff_iff]; simp; omega])))))))))))
def BodyC {β : Type} (n : Nat) (g : FuncId) (ca : List Value) (W : Nat → β → Own → Prop) (stp : β → V → Int → Except Int (Bool × β × Int)) (b : Nat) (s : ScT) : Prop :=
  ∀ (j : Nat) (σ : β) (x : V) (f : Int) (o0 : Own), j < 32 → W j σ o0 → x.good → okF f → AC Tryz.prog g [mb b { s with it := x } f, o0] (.agg (x.cs false) :: ca.map AV.c)
    (PanR (errE (stp σ x f) = 0) (errV (errE (stp σ x f))) fun y o => ∃ k σ' f' o1, stp σ x f = .ok (k, σ', f') ∧ okF f' ∧ W (j + 1) σ' o1 ∧ y = .c (.bool k) ∧ o = [mb b { s with it := x } f', o1])
def ItR {β : Type} (W : Nat → β → Own → Prop) (r : Except Int (β × Int)) (b : Nat) (s : ScT) : Res → List Own → Prop := PanR (errE r = 0) (errV (errE r)) fun x o => ∃ σ f' j o1, r = .ok (σ, f') ∧ j ≤ 32 ∧ W j σ o1 ∧ okF f' ∧ x = .tup [] ∧ o = [mb b s f', o1]
theorem ItR.er {β : Type} {W : Nat → β → Own → Prop} {r : Except Int (β × Int)} {b : Nat} {s : ScT} {c : Int} (h : r = .error c) (hc : ¬ c = 0) : ItR W r b s (.pan (.iface 33 (.int .i64 c))) [] := .inr ⟨by rw [h]; exact hc, by rw [h]; rfl, rfl⟩
theorem ItR.ok {β : Type} {W : Nat → β → Own → Prop} {r : Except Int (β × Int)} {b : Nat} {s : ScT} {σ : β} {f' : Int} {j : Nat} {o1 : Own} (h : r = .ok (σ, f')) (hj : j ≤ 32) (hI : W j σ o1) (hf : okF f') : ItR W r b s (.ret (.tup [])) [mb b s f', o1] := .inl ⟨by rw [h]; rfl, _, rfl, σ, f', j, o1, h, hj, hI, hf, rfl, rfl⟩
theorem itemsE_er {β : Type} {stp : β → V → Int → Except Int (Bool × β × Int)} {σ : β} {r : ER V} {c : Int} (h : r = .error c) : itemsE stp σ r = .error c := by rw [h]; rfl
theorem itemsE_no {β : Type} {stp : β → V → Int → Except Int (Bool × β × Int)} {σ : β} {r : ER V} {v : V} {f : Int} (h : r = .ok (v, f)) (hk : ¬ v.kind = 4) : itemsE stp σ r = .error 81 := by rw [h]; exact if_pos hk
theorem itemsE_yes {β : Type} {stp : β → V → Int → Except Int (Bool × β × Int)} {σ : β} {r : ER V} {v : V} {f : Int} (h : r = .ok (v, f)) (hk : v.kind = 4) : itemsE stp σ r = itE stp v.items σ f := by rw [h]; exact if_neg (fun h => h hk)
theorem ev_okF {e : EX} {s : ScT} {f f' : Int} {v : V} (hw : e.wf) (hf : e.Fine) (hs : s.good) (h0 : okF f) (h : e.ev s f = .ok (v, f')) : v.good ∧ okF f' := by
  obtain ⟨a1, a2, a3⟩ := EX.ev_good e s f hf hw hs v f' h
  exact ⟨a1, a3, by have := h0.2; omega⟩
theorem mitems_ok {β : Type} {n : Nat} {g : FuncId} {ca : List Value} {W : Nat → β → Own → Prop} {stp : β → V → Int → Except Int (Bool × β × Int)} (ih : EvIH n) (hgo : goFn Tryz.prog g = true) {e : EX} {s : ScT} {f : Int} {b : Nat} {fr : Bool} {ys : List AV} (hg : BodyC n g ca W stp b s) (he : Xc fr e ys) (hw : e.wf) (hf : e.Fine) (hs : s.good) (h0 : okF f) (hn : e.sz ≤ n) {σ0 : β} {o0 : Own} (hI : W 0 σ0 o0) :
    AC Tryz.prog 105 [mb b s f, o0] [pb b, .agg ys, .c (.func (.func g) #[] ca.toArray)] (ItR W (itemsE stp σ0 (e.ev s f)) b s) := by
  subst he
  refine AC.of_J Tryz.func105 rfl Tryz.ntmps105 rfl fun w0 A0 => ?_
  refine Zs (JL.box_agg (.tmp rfl) rfl fun b4 => Zn (Zs (Zq rfl (QW.move (.tmp rfl)) (Zq rfl (QW.load_box 0 ty79 (.tmp rfl) rfl (take_at xl rfl) xl) ?_))))
  refine JL.callPF [.k, .p] gofn87 rfl Lent.nil (fun _ => (.cons (.tmp rfl) (.cons (.tmp rfl) .nil))) (ih e s f b fr hw hf hs h0 hn) (.inl rfl) (fun k12 x12 o12 h12 => ?_) (fun k12 => ?_)
  rotate_left
  · skip
    refine thenQ.p ?_
    exact ⟨_, selP [.k, .k] _, _, rfl, rfl, sel_perm [.k, .k] _, ItR.er (itemsE_er (er_of k12)) k12⟩
  obtain ⟨v12, f12, hv12, rfl, rfl⟩ := h12
  obtain ⟨hgv, hfv⟩ := ev_okF hw hf hs h0 hv12
  obtain ⟨vk, vb, vt, vks, vis⟩ := v12
  have hlen : vis.length ≤ 32 := hgv.len
  refine JL.alloc z26 rfl rfl fun b6 => JL.store_boxF 0 ty26 (.tmp rfl) rfl (.tmp rfl) rfl rfl rfl rfl (Zn (Zs (Zq rfl (QW.field_ptr fo26_0 (.tmp rfl) rfl) (Zq rfl (QW.load_box1 0 ty3 (.tmp rfl) rfl rfl) (Zq rfl (QW.eql (.tmp rfl) .const) ?_)))))
  refine JL.callPF [] gofn95 rfl Lent.nil (fun _ => (.cons (.tmp rfl) (.cons .const .nil))) (nd_ok _ _) (.inl rfl) (fun k16 x16 o16 h16 => ?_) (fun k16 => ?_)
  rotate_left
  · skip
    refine thenQ.p ?_
    exact ⟨_, selP [.k, .k, .k, .k] _, _, rfl, rfl, sel_perm [.k, .k, .k, .k] _, ItR.er (c := 81) (itemsE_no hv12 (by show ¬ vk = 4; simpa using k16)) (by decide)⟩
  obtain ⟨rfl, rfl⟩ := h16
  refine Zn (Zs (Zq rfl (QW.move (.tmp rfl)) (Zq rfl (QW.nil_ptr (.tmp rfl)) (Zq rfl (QW.field_ptr fo157_0 (.tmp rfl) rfl) (Zq rfl (QW.field_ptr fo117_2 (.tmp rfl) rfl) (Zq rfl (QW.load_box 2 ty26 (.tmp rfl) rfl (mb_at 2) vl) (JL.alloc z26 rfl rfl fun b7 => JL.store_boxF 0 ty26 (.tmp rfl) rfl (.tmp rfl) rfl vl rfl rfl (Zn ?_))))))))
  refine J.seq (Zs (Zq rfl (QW.field_ptr fo26_4 (.tmp rfl) rfl) (Zq rfl (QW.load_box1 1 ty24 (.tmp rfl) rfl rfl) (Zq rfl (QW.len_slE sl24 (.tmp rfl) wl) (Zq rfl (QW.move .const) (Zn (J.block (J.loopK (ι := Nat × β × Int × V × Own) [0, 2, 7, 23, 24] (fun ⟨j, σ, g1, it, o⟩ => [(25, .c (.int .i64 (j : Int)))]) (fun ⟨j, σ, g1, it, o⟩ oo => List.set (List.set oo 3 (mb b { s with it := it } g1)) 4 (o)) (fun ⟨j, σ, g1, it, o⟩ => j ≤ vis.length ∧ itE stp vis σ0 f12 = itE stp (vis.drop j) σ g1 ∧ W j σ o ∧ okF g1) (fun ⟨j, σ, g1, it, o⟩ => vis.length - j) ⟨0, σ0, f12, s.it, o0⟩ (⟨Nat.zero_le _, rfl, hI, hfv⟩) (Wk.re (.cons rfl lr (.cons rfl lr (.cons rfl lr (.cons rfl lr (.cons rfl lr (.cons rfl lr .nil)))))) (Reown.refl _) (fun _ h => by first | exact h | simp [h])) ?_))))))))
  intro ⟨j, σ, f, it, o⟩ ⟨hj, hit, hIj, hfj⟩
  refine J.conv (by (try simp only [nl, stepsO, valO, nthO, curO, mrg, AV.cellsOf, splice_zero, splice_succ, Nat.reduceAdd]); rfl) ?_
  refine Zs (Zq rfl (QW.lss (.tmp rfl) (.tmp rfl)) (Zn (J.seq ?_)))
  refine J.cond (.tmp rfl) (fun c1 => ?_) (fun c1 => ?_)
  · skip
    have hlt : j < vis.length := by simpa [V.css_length] using c1
    have hj32 : j < 32 := by omega
    have hgx : vis[j].good := hgv.kid (List.getElem_mem hlt)
    refine Zk (J.seq (J.block (Zs (Zq rfl (QW.index_sl sl24 ty26 rfl (.tmp rfl) (.tmp rfl) rfl (by exact V.css_getE _ hlt)) ?_))))
    refine Zq rfl (QW.load_ref ty26 (.tmp rfl) (take_at0 vl rfl) vl) (JL.alloc z26 rfl rfl fun b9 => JL.store_boxF 0 ty26 (.tmp rfl) rfl (.tmp rfl) rfl vl rfl rfl (Zn (Zs (Zq rfl (QW.move (.tmp rfl)) (Zq rfl (QW.load_box 0 ty26 (.tmp rfl) rfl (take_at vl rfl) vl) (Zq rfl (QW.nil_ptr (.tmp rfl)) (Zq rfl (QW.field_ptr fo157_0 (.tmp rfl) rfl) (Zq rfl (QW.field_ptr fo117_2 (.tmp rfl) rfl) ?_))))))))
    refine JL.store_box 4 ty26 (.tmp rfl) rfl (.tmp rfl) rfl vl (by rw [mb_len]; rfl) mb_setit rfl ?_
    refine Zn (Zs (Zq rfl (QW.move (.tmp rfl)) (Zq rfl (QW.load_box 0 ty26 (.tmp rfl) rfl (take_at vl rfl) vl) ?_)))
    refine JL.callPV [.k, .k, .k, .k, .p, .p] hgo rfl (.tmp rfl) Lent.nil (fun _ => (.cons (.tmp rfl) .nil)) rfl (hg j σ vis[j] f o hj32 hIj hgx hfj) (.inl rfl) (fun k36 x36 o36 h36 => ?_) (fun k36 => ?_)
    rotate_left
    · skip
      refine thenQ.p (blkQ.p (thenQ.p (thenQ.p (blkQ.p (thenQ.p ?_)))))
      exact ⟨_, selP [.k, .k, .k, .k] _, _, rfl, rfl, sel_perm [.k, .k, .k, .k] _, ItR.er ((itemsE_yes hv12 (by show vk = 4; simpa using k16)).trans (hit.trans (itE_bad hlt (er_of k36)))) k36⟩
    obtain ⟨q36, σ36, f36, o1_, hs36, hf36, hI36, rfl, rfl⟩ := h36
    rw [itE_ok hlt hs36] at hit
    refine Zq rfl (QW.not (.tmp rfl)) (Zn ?_)
    refine J.cond (.tmp rfl) (fun c2 => ?_) (fun c2 => ?_)
    · skip
      obtain rfl : q36 = false := by simpa using c2
      rw [if_neg (by decide)] at hit
      refine J.exit (blkQ.miss rfl (thenQ.x (thenQ.x (blkQ.hit (thenQ.n (J.region_lit (Zq rfl (QW.move (.tmp rfl)) (Zq rfl (QW.load_box 1 ty26 (.tmp rfl) rfl (take_at vl rfl) vl) (Zq rfl (QW.nil_ptr (.tmp rfl)) ?_)))))))))
      refine Zq rfl (QW.field_ptr fo157_0 (.tmp rfl) rfl) (Zq rfl (QW.field_ptr fo117_2 (.tmp rfl) rfl) (JL.store_box 4 ty26 (.tmp rfl) rfl (.tmp rfl) rfl vl (by rw [mb_len]; rfl) mb_setit rfl ?_))
      exact JL.nil (Zr [.k, .k, .k, .k, .p, .p] (RetEv.none rfl ) rfl (ItR.ok ((itemsE_yes hv12 (by show vk = 4; simpa using k16)).trans hit) (Nat.le_trans hlt hlen) hI36 hf36))
    obtain rfl : q36 = true := by simpa using c2
    rw [if_pos rfl] at hit
    refine J.skip (blkQ.n (thenQ.n (J.region_lit (Zq rfl (QW.add (.tmp rfl) .const (w64 (by omega))) (Zq rfl (QW.move (.tmp rfl)) (Zn ?_))))))
    exact ⟨⟨j + 1, σ36, f36, vis[j], o1_⟩, ⟨hlt, hit, hI36, hf36⟩, by show vis.length - (j + 1) < vis.length - j; omega, Wk.re (.cons rfl lr (.cons rfl lr (.cons rfl lr (.cons rfl lr (.cons rfl lr (.cons rfl lr .nil)))))) (Reown.dropN 1 _ rfl) (fun _ h => by first | exact h | simp [h])⟩
  have hge : vis.length ≤ j := by simpa [V.css_length] using c1
  rw [List.drop_of_length_le hge, itE] at hit
  refine J.exit (thenQ.x (thenQ.x (blkQ.hit (thenQ.n (J.region_lit (Zq rfl (QW.move (.tmp rfl)) (Zq rfl (QW.load_box 0 ty26 (.tmp rfl) rfl (take_at vl rfl) vl) (Zq rfl (QW.nil_ptr (.tmp rfl)) (Zq rfl (QW.field_ptr fo157_0 (.tmp rfl) rfl) ?_)))))))))
  refine Zq rfl (QW.field_ptr fo117_2 (.tmp rfl) rfl) (JL.store_box 3 ty26 (.tmp rfl) rfl (.tmp rfl) rfl vl (by rw [mb_len]; rfl) mb_setit rfl ?_)
  exact JL.nil (Zr [.k, .k, .k, .p, .p] (RetEv.none rfl ) rfl (ItR.ok ((itemsE_yes hv12 (by show vk = 4; simpa using k16)).trans hit) (Nat.le_trans hj hlen) hIj hfj))
end Go.Proofs.YtmccnmahegbmpaaGreat.J

/- Walks: what the machine does with each item. -/
namespace Go.Proofs.YtmccnmahegbmpaaGreat.J
open Go Go.RowKit
set_option maxRecDepth 10000
set_option maxHeartbeats 4000000
def outC (v : Value) : List AV := [.c (.int .i64 4), .c (.int .u64 0), .c (str []), .c (.slice none 0 0), .c v]
def ptr (b : Nat) : Value := .pointer (some ⟨b, 0, none⟩)
def wLst (b5 b2 b6 b : Nat) (ye : List AV) (j : Nat) (ys : List V) (o : Own) : Prop := ∃ v, o = .grp [.box b5 (outC v), .arr v eV (V.css false ys), .box b2 [pb b], .box b6 ye] ∧ ys.length ≤ j ∧ ∀ x ∈ ys, x.good
def stMap (y : EX) (s : ScT) (ys : List V) (x : V) (f : Int) : Except Int (Bool × List V × Int) := match y.ev { s with it := x } f with
  | .error e => .error e
  | .ok (v, f') => .ok (true, ys ++ [v], f')
def stFil (y : EX) (s : ScT) (ys : List V) (x : V) (f : Int) : Except Int (Bool × List V × Int) := match truE (y.ev { s with it := x } f) with
  | .error e => .error e
  | .ok (t, f') => .ok (true, if t then ys ++ [x] else ys, f')
theorem stMap_er {y : EX} {s : ScT} {ys : List V} {x : V} {f c : Int} (h : y.ev { s with it := x } f = .error c) : stMap y s ys x f = .error c := by unfold stMap; rw [h]
theorem stMap_ok {y : EX} {s : ScT} {ys : List V} {x v : V} {f f' : Int} (h : y.ev { s with it := x } f = .ok (v, f')) : stMap y s ys x f = .ok (true, ys ++ [v], f') := by unfold stMap; rw [h]
theorem stFil_er {y : EX} {s : ScT} {ys : List V} {x : V} {f c : Int} (h : truE (y.ev { s with it := x } f) = .error c) : stFil y s ys x f = .error c := by unfold stFil; rw [h]
theorem stFil_ok {y : EX} {s : ScT} {ys : List V} {x : V} {f f' : Int} {t : Bool} (h : truE (y.ev { s with it := x } f) = .ok (t, f')) : stFil y s ys x f = .ok (true, if t then ys ++ [x] else ys, f') := by unfold stFil; rw [h]
theorem css_set (ys : List V) (v : V) (z : List AV) : (V.css false ys ++ [z]).set ys.length (v.cs false) = V.css false (ys ++ [v]) := by
  have h : ∀ (l : List V), V.css false (l ++ [v]) = V.css false l ++ [v.cs false] := fun l => by
    induction l with
    | nil => rfl
    | cons x r ih => rw [List.cons_append, V.css, V.css, ih]; rfl
  rw [h, ← V.css_length false ys, List.set_append_right _ _ (Nat.le_refl _), Nat.sub_self]; rfl
theorem css_zero (ys : List V) (z : List AV) : (V.css false ys ++ [z])[ys.length]? = some z := by
  rw [← V.css_length false ys, List.getElem?_append_right (Nat.le_refl _), Nat.sub_self]; rfl
def BodR {β : Type} (W : Nat → β → Own → Prop) (r : Except Int (Bool × β × Int)) (j b : Nat) (s : ScT) : Res → List Own → Prop := PanR (errE r = 0) (errV (errE r)) fun y o => ∃ k σ' f' o1, r = .ok (k, σ', f') ∧ okF f' ∧ W (j + 1) σ' o1 ∧ y = .c (.bool k) ∧ o = [mb b s f', o1]
theorem BodR.er {β : Type} {W : Nat → β → Own → Prop} {r : Except Int (Bool × β × Int)} {j b : Nat} {s : ScT} {c : Int} (h : r = .error c) (hc : ¬ c = 0) : BodR W r j b s (.pan (.iface 33 (.int .i64 c))) [] := .inr ⟨by rw [h]; exact hc, by rw [h]; rfl, rfl⟩
theorem BodR.ok {β : Type} {W : Nat → β → Own → Prop} {r : Except Int (Bool × β × Int)} {j b : Nat} {s : ScT} {k : Bool} {σ : β} {f' : Int} {o1 : Own} (h : r = .ok (k, σ, f')) (hf : okF f') (hW : W (j + 1) σ o1) : BodR W r j b s (.ret (.c (.bool k))) [mb b s f', o1] := .inl ⟨by rw [h]; rfl, _, rfl, k, σ, f', o1, h, hf, hW, rfl, rfl⟩
theorem over1_ok {n : Nat} (ih : EvIH n) {y : EX} {s : ScT} {fr : Bool} (hw : y.wf) (hf : y.Fine) (hs : s.good) (hn : y.sz ≤ n) (b b5 b2 b6 : Nat) {j : Nat} {ys : List V} {x : V} {f : Int} {o0 : Own} (hj : j < 32) (hW : wLst b5 b2 b6 b (y.cs fr) j ys o0) (hx : x.good) (h0 : okF f) :
    AC Tryz.prog 106 [mb b { s with it := x } f, o0] [.agg (x.cs false), .c (ptr b5), .c (ptr b2), .c (ptr b6)] (BodR (wLst b5 b2 b6 b (y.cs fr)) (stMap y s ys x f) j b { s with it := x }) := by
  obtain ⟨v, rfl, hl, hgd⟩ := hW
  refine AC.of_J Tryz.func106 rfl Tryz.ntmps106 rfl fun w0 A0 => ?_
  refine J.seq (J.reown (Reown.cons (Reown.open _ _)) (J.region_lit (JL.box_agg (.tmp rfl) rfl fun b4 => Zq rfl (QW.assign .const) (Zn (J.seq (J.regionX mixed (Zf 0 [] rfl (fun _ => QW.field_ptr fo26_4 (.tmp rfl) rfl) (Zo 1 2 [6] rfl (fun _ ho_ => QW.load_box1 2 ty24 (.tmp rfl) ho_ rfl) ?_))))))))
  refine Zo 2 4 [] rfl (fun _ ho_ => QW.load_box1 4 ty155 (.tmp rfl) ho_ rfl) (Zo 3 5 [] rfl (fun _ ho_ => QW.load_box 5 ty79 (.tmp rfl) ho_ (take_at xl rfl) xl) (Zo 5 3 [7] rfl (fun _ ho_ => QW.len_arr 3 sl24 (.tmp rfl) ho_) (Zf 6 [] rfl (fun _ => QW.buildSlice (idx := [0]) (xs := [[.c (.int .i64 0), .c (.int .u64 0), .c (str []), .c (.slice none 0 0), .c (.slice none 0 0)]]) sl24 el26 z26 rfl (.cons (.constA rfl) .nil) rfl rfl rfl rfl rfl rfl rfl rfl rfl) (JX.one 4 [false, false, true, true, false, false] rfl (by kernel_rfl) (by kernel_rfl) rfl rfl (by kernel_rfl) rfl fun bs4_ pe_ ex_ => ?_))))
  refine JL.conv (by (try simp only [vlF, bxF, tkM, lvM, Flt.val, Flt.bx, nx, nl, stepsO, valO, nthO, curO, mrg, AV.cellsOf, splice_zero, splice_succ, Nat.reduceAdd]); rfl) ?_
  refine JL.callPF [.k, .p] gofn87 rfl Lent.nil (fun _ => (.cons (.tmp rfl) (.cons (.tmp rfl) .nil))) (ih y { s with it := x } f b fr hw hf ⟨hs.st, hs.ev, hx⟩ h0 hn) (.inl rfl) (fun k10 x10 o10 h10 => ?_) (fun k10 => ?_)
  rotate_left
  · skip
    refine thenQ.p (thenQ.p ?_)
    exact ⟨_, selP [.k, .k, .k, .k, .k] _, _, rfl, rfl, sel_perm [.k, .k, .k, .k, .k] _, BodR.er (stMap_er (er_of k10)) k10⟩
  obtain ⟨v10, f10, hv10, rfl, rfl⟩ := h10
  refine JL.nil ?_
  refine thenQ.n ⟨[_], _, rfl, rfl, rfl, rfl, rfl, Reown.mrgN 6 rfl rfl, ⟨rfl, rfl⟩, ⟨trivial, ⟨rfl, ⟨rfl, ⟨trivial, trivial⟩⟩⟩⟩, ?_⟩
  refine JX.conv (S' := [4, 3, 2]) rfl (by (try simp only [lvM]); rfl) (by (try simp only [vlF, bxF, tkM, lvM, Flt.val, Flt.bx, nx, nl, stepsO, valO, nthO, curO, mrg, AV.cellsOf, splice_zero, splice_succ, Nat.reduceAdd]); rfl) ?_
  refine JX.one 7 [true, true, true, true] rfl (by kernel_rfl) (by kernel_rfl) rfl rfl (by kernel_rfl) rfl fun bs7_ pe_ ex_ => ?_
  refine JL.conv (by (try simp only [vlF, bxF, tkM, lvM, Flt.val, Flt.bx, nx, nl, stepsO, valO, nthO, curO, mrg, AV.cellsOf, splice_zero, splice_succ, Nat.reduceAdd]); rfl) ?_
  obtain ⟨hgv, hfv⟩ := ev_okF (s := { s with it := x }) hw hf ⟨hs.st, hs.ev, hx⟩ h0 hv10
  refine JL.append 3 sl24 el26 rfl (.tmp rfl) rfl (srcA_sl sl24 (.tmp rfl)) (by rw [V.css_length]; show (_ + 1) * 80 ≤ _; unfold reach; omega) rfl fun v13 => ?_
  refine JL.nil ?_
  refine thenQ.n ⟨[_], _, rfl, rfl, rfl, rfl, rfl, Reown.tkN 6 rfl, ⟨rfl, rfl⟩, trivial, ?_⟩
  refine JX.conv (S' := [7, 6, 5, 1, 0, 4, 3, 2]) rfl (by (try simp only [lvM]); rfl) (by (try simp only [vlF, bxF, tkM, lvM, Flt.val, Flt.bx, nx, nl, stepsO, valO, nthO, curO, mrg, AV.cellsOf, splice_zero, splice_succ, Nat.reduceAdd]); rfl) ?_
  refine Zo 8 3 [13, 11] rfl (fun _ ho_ => QW.index_arr 3 sl24 ty26 rfl (.tmp rfl) ho_ (.tmp rfl) rfl (by rw [List.length_append, V.css_length]; simp) rfl) ?_
  refine Zf 10 [] rfl (fun _ => QW.field_ptr fo26_4 (.tmp rfl) rfl) ?_
  refine jxPair 9 11 (by kernel_rfl) (by kernel_rfl) ?_ ?_
  · skip
    refine CandX.mk 9 [false, true] rfl rfl rfl (by kernel_rfl) rfl fun bs9_ pe_ ex_ => ?_
    refine JL.conv (by (try simp only [vlF, bxF, tkM, lvM, Flt.val, Flt.bx, nx, nl, stepsO, valO, nthO, curO, mrg, AV.cellsOf, splice_zero, splice_succ, Nat.reduceAdd]); rfl) ?_
    refine JL.store_gp (o := 0) 3 ty26 (.tmp rfl) rfl (css_zero _ _) (by rw [V.css_length]; rfl) (.tmp rfl) rfl vl rfl ((congrArg (List.set _ _) (splice_all (by exact vl))).trans (css_set _ _ _)) rfl ?_
    refine JL.nil ?_
    refine thenQ.n ⟨[], _, rfl, rfl, rfl, rfl, rfl, Reown.tkN 6 rfl, trivial, ⟨trivial, trivial⟩, ?_⟩
    refine JX.conv (S' := [9, 8, 7, 6, 5, 1, 0, 4, 3, 2]) rfl (by (try simp only [lvM]); rfl) (by (try simp only [vlF, bxF, tkM, lvM, Flt.val, Flt.bx, nx, nl, stepsO, valO, nthO, curO, mrg, AV.cellsOf, splice_zero, splice_succ, Nat.reduceAdd]); rfl) ?_
    refine JX.one 11 [true] rfl (by kernel_rfl) (by kernel_rfl) rfl rfl (by kernel_rfl) rfl fun bs11_ pe_ ex_ => ?_
    refine JL.conv (by (try simp only [vlF, bxF, tkM, lvM, Flt.val, Flt.bx, nx, nl, stepsO, valO, nthO, curO, mrg, AV.cellsOf, splice_zero, splice_succ, Nat.reduceAdd]); rfl) ?_
    refine JL.isSlice 3 rfl fun hs1 => JL.store_box 2 ty24 (.tmp rfl) rfl (.tmp rfl) (by assumption) rfl rfl rfl rfl ?_
    refine JL.nil ?_
    refine thenQ.n ⟨[], _, rfl, rfl, rfl, rfl, rfl, Reown.tkN 6 rfl, trivial, trivial, ?_⟩
    refine JX.conv (S' := [11, 10, 9, 8, 7, 6, 5, 1, 0, 4, 3, 2]) rfl (by (try simp only [lvM]); rfl) (by (try simp only [vlF, bxF, tkM, lvM, Flt.val, Flt.bx, nx, nl, stepsO, valO, nthO, curO, mrg, AV.cellsOf, splice_zero, splice_succ, Nat.reduceAdd]); rfl) ?_
    refine JX.fin (by kernel_rfl) (by kernel_rfl) fun bs_ => ?_
    refine QX.conv (by (try simp only [vlF, bxF, tkM, lvM, Flt.val, Flt.bx, nx, nl, stepsO, valO, nthO, curO, mrg, AV.cellsOf, splice_zero, splice_succ, Nat.reduceAdd]); rfl) ?_
    exact thenQ.n (J.seq (J.reown (Reown.cons (Reown.cons (Reown.shut [_, _, _, _] []))) (J.region_lit (Zq rfl (QW.assign .const) (Zn (J.ret (Zr [.k, .p, .p] (RetEv.one rfl (REv.tmp rfl lr)) rfl (BodR.ok (stMap_ok hv10) hfv ⟨_, rfl, by simp; omega, fun z hz => (List.mem_append.1 hz).elim (hgd z) (fun h => by rw [List.mem_singleton.1 h]; exact hgv)⟩))))))))
  · skip
    refine CandX.mk 11 [true, false] rfl rfl rfl (by kernel_rfl) rfl fun bs11_ pe_ ex_ => ?_
    refine JL.conv (by (try simp only [vlF, bxF, tkM, lvM, Flt.val, Flt.bx, nx, nl, stepsO, valO, nthO, curO, mrg, AV.cellsOf, splice_zero, splice_succ, Nat.reduceAdd]); rfl) ?_
    refine JL.isSlice 3 rfl fun hs1 => JL.store_box 2 ty24 (.tmp rfl) rfl (.tmp rfl) (by assumption) rfl rfl rfl rfl ?_
    refine JL.nil ?_
    refine thenQ.n ⟨[], _, rfl, rfl, rfl, rfl, rfl, Reown.tkN 6 rfl, trivial, ⟨rfl, trivial⟩, ?_⟩
    refine JX.conv (S' := [11, 10, 7, 6, 5, 1, 0, 4, 3, 2]) rfl (by (try simp only [lvM]); rfl) (by (try simp only [vlF, bxF, tkM, lvM, Flt.val, Flt.bx, nx, nl, stepsO, valO, nthO, curO, mrg, AV.cellsOf, splice_zero, splice_succ, Nat.reduceAdd]); rfl) ?_
    refine JX.one 9 [true] rfl (by kernel_rfl) (by kernel_rfl) rfl rfl (by kernel_rfl) rfl fun bs9_ pe_ ex_ => ?_
    refine JL.conv (by (try simp only [vlF, bxF, tkM, lvM, Flt.val, Flt.bx, nx, nl, stepsO, valO, nthO, curO, mrg, AV.cellsOf, splice_zero, splice_succ, Nat.reduceAdd]); rfl) ?_
    refine JL.store_gp (o := 0) 3 ty26 (.tmp rfl) rfl (css_zero _ _) (by rw [V.css_length]; rfl) (.tmp rfl) rfl vl rfl ((congrArg (List.set _ _) (splice_all (by exact vl))).trans (css_set _ _ _)) rfl ?_
    refine JL.nil ?_
    refine thenQ.n ⟨[], _, rfl, rfl, rfl, rfl, rfl, Reown.tkN 6 rfl, trivial, trivial, ?_⟩
    refine JX.conv (S' := [9, 8, 11, 10, 7, 6, 5, 1, 0, 4, 3, 2]) rfl (by (try simp only [lvM]); rfl) (by (try simp only [vlF, bxF, tkM, lvM, Flt.val, Flt.bx, nx, nl, stepsO, valO, nthO, curO, mrg, AV.cellsOf, splice_zero, splice_succ, Nat.reduceAdd]); rfl) ?_
    refine JX.fin (by kernel_rfl) (by kernel_rfl) fun bs_ => ?_
    refine QX.conv (by (try simp only [vlF, bxF, tkM, lvM, Flt.val, Flt.bx, nx, nl, stepsO, valO, nthO, curO, mrg, AV.cellsOf, splice_zero, splice_succ, Nat.reduceAdd]); rfl) ?_
    exact thenQ.n (J.seq (J.reown (Reown.cons (Reown.cons (Reown.shut [_, _, _, _] []))) (J.region_lit (Zq rfl (QW.assign .const) (Zn (J.ret (Zr [.k, .p, .p] (RetEv.one rfl (REv.tmp rfl lr)) rfl (BodR.ok (stMap_ok hv10) hfv ⟨_, rfl, by simp; omega, fun z hz => (List.mem_append.1 hz).elim (hgd z) (fun h => by rw [List.mem_singleton.1 h]; exact hgv)⟩))))))))
theorem tr_okF {e : EX} {s : ScT} {f f' : Int} {t : Bool} (hw : e.wf) (hf : e.Fine) (hs : s.good) (h0 : okF f) (h : truE (e.ev s f) = .ok (t, f')) : okF f' := by
  obtain ⟨v, h1, _, _⟩ := truE_ok h
  exact (ev_okF hw hf hs h0 h1).2
def wFnd (b7 b5 b2 b6 b : Nat) (ye : List AV) (j : Nat) (p : Bool × V) (o : Own) : Prop := ∃ zs, o = .grp [.box b7 [.c (.bool p.1)], .box b5 zs, .box b2 [pb b], .box b6 ye] ∧ zs.length = 5 ∧ (p.1 = true → zs = p.2.cs false ∧ p.2.good)
def stFnd (y : EX) (s : ScT) (p : Bool × V) (x : V) (f : Int) : Except Int (Bool × (Bool × V) × Int) := match truE (y.ev { s with it := x } f) with
  | .error e => .error e
  | .ok (t, f') => .ok (!t, (t, if t then x else p.2), f')
theorem stFnd_er {y : EX} {s : ScT} {p : Bool × V} {x : V} {f c : Int} (h : truE (y.ev { s with it := x } f) = .error c) : stFnd y s p x f = .error c := by unfold stFnd; rw [h]
theorem stFnd_ok {y : EX} {s : ScT} {p : Bool × V} {x : V} {f f' : Int} {t : Bool} (h : truE (y.ev { s with it := x } f) = .ok (t, f')) : stFnd y s p x f = .ok (!t, (t, if t then x else p.2), f') := by unfold stFnd; rw [h]
theorem over2_ok {n : Nat} (ih : EvIH n) {y : EX} {s : ScT} {fr : Bool} (hw : y.wf) (hf : y.Fine) (hs : s.good) (hn : y.sz ≤ n) (b b5 b2 b6 : Nat) {j : Nat} {ys : List V} {x : V} {f : Int} {o0 : Own} (hj : j < 32) (hW : wLst b5 b2 b6 b (y.cs fr) j ys o0) (hx : x.good) (h0 : okF f) :
    AC Tryz.prog 107 [mb b { s with it := x } f, o0] [.agg (x.cs false), .c (ptr b2), .c (ptr b6), .c (ptr b5)] (BodR (wLst b5 b2 b6 b (y.cs fr)) (stFil y s ys x f) j b { s with it := x }) := by
  obtain ⟨v, rfl, hl, hgd⟩ := hW
  refine AC.of_J Tryz.func107 rfl Tryz.ntmps107 rfl fun w0 A0 => ?_
  refine J.seq (J.reown (Reown.cons (Reown.open _ _)) (J.region_lit (JL.box_agg (.tmp rfl) rfl fun b4 => Zq rfl (QW.assign .const) (Zn (J.seq (Zs (Zq rfl (QW.load_box1 4 ty155 (.tmp rfl) rfl rfl) (Zq rfl (QW.load_box 5 ty79 (.tmp rfl) rfl (take_at xl rfl) xl) ?_))))))))
  refine JL.callPF [.k, .p] gofn98 rfl Lent.nil (fun _ => (.cons (.tmp rfl) (.cons (.tmp rfl) .nil))) (mtruth_ok (s := { s with it := x }) ih Xc.self hw hf ⟨hs.st, hs.ev, hx⟩ h0 hn) (.inl rfl) (fun k8 x8 o8 h8 => ?_) (fun k8 => ?_)
  rotate_left
  · skip
    refine thenQ.p (thenQ.p ?_)
    exact ⟨_, selP [.k, .k, .k, .k, .k] _, _, rfl, rfl, sel_perm [.k, .k, .k, .k, .k] _, BodR.er (stFil_er (er_of k8)) k8⟩
  obtain ⟨q8, f8, hq8, rfl, rfl⟩ := h8
  refine Zn ?_
  refine J.cond (.tmp rfl) (fun c1 => ?_) (fun c1 => ?_)
  · skip
    obtain rfl : q8 = true := c1
    have hfv := tr_okF (s := { s with it := x }) hw hf ⟨hs.st, hs.ev, hx⟩ h0 hq8
    refine J.regionX mixed (Zf 0 [] rfl (fun _ => QW.field_ptr fo26_4 (.tmp rfl) rfl) (Zo 1 2 [9] rfl (fun _ ho_ => QW.load_box1 2 ty24 (.tmp rfl) ho_ rfl) (Zo 2 0 [] rfl (fun _ ho_ => QW.load_box 0 ty26 (.tmp rfl) ho_ (take_at vl rfl) vl) (Zo 3 3 [10] rfl (fun _ ho_ => QW.len_arr 3 sl24 (.tmp rfl) ho_) (Zf 4 [] rfl (fun _ => QW.buildSlice (idx := [0]) (xs := [[.c (.int .i64 0), .c (.int .u64 0), .c (str []), .c (.slice none 0 0), .c (.slice none 0 0)]]) sl24 el26 z26 rfl (.cons (.constA rfl) .nil) rfl rfl rfl rfl rfl rfl rfl rfl rfl) (JX.one 5 [true, true, true, true, true] rfl (by kernel_rfl) (by kernel_rfl) rfl rfl (by kernel_rfl) rfl fun bs5_ pe_ ex_ => ?_))))))
    refine JL.conv (by (try simp only [vlF, bxF, tkM, lvM, Flt.val, Flt.bx, nx, nl, stepsO, valO, nthO, curO, mrg, AV.cellsOf, splice_zero, splice_succ, Nat.reduceAdd]); rfl) ?_
    refine JL.append 3 sl24 el26 rfl (.tmp rfl) rfl (srcA_sl sl24 (.tmp rfl)) (by rw [V.css_length]; show (_ + 1) * 80 ≤ _; unfold reach; omega) rfl fun v14 => ?_
    refine JL.nil ?_
    refine thenQ.n ⟨[_], _, rfl, rfl, rfl, rfl, rfl, Reown.tkN 6 rfl, ⟨rfl, rfl⟩, trivial, ?_⟩
    refine JX.conv (S' := [5, 4, 3, 2, 1, 0]) rfl (by (try simp only [lvM]); rfl) (by (try simp only [vlF, bxF, tkM, lvM, Flt.val, Flt.bx, nx, nl, stepsO, valO, nthO, curO, mrg, AV.cellsOf, splice_zero, splice_succ, Nat.reduceAdd]); rfl) ?_
    refine Zo 6 3 [14, 12] rfl (fun _ ho_ => QW.index_arr 3 sl24 ty26 rfl (.tmp rfl) ho_ (.tmp rfl) rfl (by rw [List.length_append, V.css_length]; simp) rfl) ?_
    refine Zf 8 [] rfl (fun _ => QW.field_ptr fo26_4 (.tmp rfl) rfl) ?_
    refine jxPair 7 9 (by kernel_rfl) (by kernel_rfl) ?_ ?_
    · skip
      refine CandX.mk 7 [false, true] rfl rfl rfl (by kernel_rfl) rfl fun bs7_ pe_ ex_ => ?_
      refine JL.conv (by (try simp only [vlF, bxF, tkM, lvM, Flt.val, Flt.bx, nx, nl, stepsO, valO, nthO, curO, mrg, AV.cellsOf, splice_zero, splice_succ, Nat.reduceAdd]); rfl) ?_
      refine JL.store_gp (o := 0) 3 ty26 (.tmp rfl) rfl (css_zero _ _) (by rw [V.css_length]; rfl) (.tmp rfl) rfl vl rfl ((congrArg (List.set _ _) (splice_all (by exact vl))).trans (css_set _ _ _)) rfl ?_
      refine JL.nil ?_
      refine thenQ.n ⟨[], _, rfl, rfl, rfl, rfl, rfl, Reown.tkN 6 rfl, trivial, ⟨trivial, trivial⟩, ?_⟩
      refine JX.conv (S' := [7, 6, 5, 4, 3, 2, 1, 0]) rfl (by (try simp only [lvM]); rfl) (by (try simp only [vlF, bxF, tkM, lvM, Flt.val, Flt.bx, nx, nl, stepsO, valO, nthO, curO, mrg, AV.cellsOf, splice_zero, splice_succ, Nat.reduceAdd]); rfl) ?_
      refine JX.one 9 [true] rfl (by kernel_rfl) (by kernel_rfl) rfl rfl (by kernel_rfl) rfl fun bs9_ pe_ ex_ => ?_
      refine JL.conv (by (try simp only [vlF, bxF, tkM, lvM, Flt.val, Flt.bx, nx, nl, stepsO, valO, nthO, curO, mrg, AV.cellsOf, splice_zero, splice_succ, Nat.reduceAdd]); rfl) ?_
      refine JL.isSlice 3 rfl fun hs1 => JL.store_box 2 ty24 (.tmp rfl) rfl (.tmp rfl) (by assumption) rfl rfl rfl rfl ?_
      refine JL.nil ?_
      refine thenQ.n ⟨[], _, rfl, rfl, rfl, rfl, rfl, Reown.tkN 6 rfl, trivial, trivial, ?_⟩
      refine JX.conv (S' := [9, 8, 7, 6, 5, 4, 3, 2, 1, 0]) rfl (by (try simp only [lvM]); rfl) (by (try simp only [vlF, bxF, tkM, lvM, Flt.val, Flt.bx, nx, nl, stepsO, valO, nthO, curO, mrg, AV.cellsOf, splice_zero, splice_succ, Nat.reduceAdd]); rfl) ?_
      refine JX.fin (by kernel_rfl) (by kernel_rfl) fun bs_ => ?_
      refine QX.conv (by (try simp only [vlF, bxF, tkM, lvM, Flt.val, Flt.bx, nx, nl, stepsO, valO, nthO, curO, mrg, AV.cellsOf, splice_zero, splice_succ, Nat.reduceAdd]); rfl) ?_
      exact thenQ.n (J.seq (J.reown (Reown.cons (Reown.cons (Reown.shut [_, _, _, _] []))) (J.region_lit (Zq rfl (QW.assign .const) (Zn (J.ret (Zr [.k, .p, .p] (RetEv.one rfl (REv.tmp rfl lr)) rfl (BodR.ok (σ := ys ++ [x]) (stFil_ok hq8) hfv ⟨_, rfl, by simp; omega, fun z hz => (List.mem_append.1 hz).elim (hgd z) (fun h => by rw [List.mem_singleton.1 h]; exact hx)⟩))))))))
    · skip
      refine CandX.mk 9 [true, false] rfl rfl rfl (by kernel_rfl) rfl fun bs9_ pe_ ex_ => ?_
      refine JL.conv (by (try simp only [vlF, bxF, tkM, lvM, Flt.val, Flt.bx, nx, nl, stepsO, valO, nthO, curO, mrg, AV.cellsOf, splice_zero, splice_succ, Nat.reduceAdd]); rfl) ?_
      refine JL.isSlice 3 rfl fun hs1 => JL.store_box 2 ty24 (.tmp rfl) rfl (.tmp rfl) (by assumption) rfl rfl rfl rfl ?_
      refine JL.nil ?_
      refine thenQ.n ⟨[], _, rfl, rfl, rfl, rfl, rfl, Reown.tkN 6 rfl, trivial, ⟨rfl, trivial⟩, ?_⟩
      refine JX.conv (S' := [9, 8, 5, 4, 3, 2, 1, 0]) rfl (by (try simp only [lvM]); rfl) (by (try simp only [vlF, bxF, tkM, lvM, Flt.val, Flt.bx, nx, nl, stepsO, valO, nthO, curO, mrg, AV.cellsOf, splice_zero, splice_succ, Nat.reduceAdd]); rfl) ?_
      refine JX.one 7 [true] rfl (by kernel_rfl) (by kernel_rfl) rfl rfl (by kernel_rfl) rfl fun bs7_ pe_ ex_ => ?_
      refine JL.conv (by (try simp only [vlF, bxF, tkM, lvM, Flt.val, Flt.bx, nx, nl, stepsO, valO, nthO, curO, mrg, AV.cellsOf, splice_zero, splice_succ, Nat.reduceAdd]); rfl) ?_
      refine JL.store_gp (o := 0) 3 ty26 (.tmp rfl) rfl (css_zero _ _) (by rw [V.css_length]; rfl) (.tmp rfl) rfl vl rfl ((congrArg (List.set _ _) (splice_all (by exact vl))).trans (css_set _ _ _)) rfl ?_
      refine JL.nil ?_
      refine thenQ.n ⟨[], _, rfl, rfl, rfl, rfl, rfl, Reown.tkN 6 rfl, trivial, trivial, ?_⟩
      refine JX.conv (S' := [7, 6, 9, 8, 5, 4, 3, 2, 1, 0]) rfl (by (try simp only [lvM]); rfl) (by (try simp only [vlF, bxF, tkM, lvM, Flt.val, Flt.bx, nx, nl, stepsO, valO, nthO, curO, mrg, AV.cellsOf, splice_zero, splice_succ, Nat.reduceAdd]); rfl) ?_
      refine JX.fin (by kernel_rfl) (by kernel_rfl) fun bs_ => ?_
      refine QX.conv (by (try simp only [vlF, bxF, tkM, lvM, Flt.val, Flt.bx, nx, nl, stepsO, valO, nthO, curO, mrg, AV.cellsOf, splice_zero, splice_succ, Nat.reduceAdd]); rfl) ?_
      exact thenQ.n (J.seq (J.reown (Reown.cons (Reown.cons (Reown.shut [_, _, _, _] []))) (J.region_lit (Zq rfl (QW.assign .const) (Zn (J.ret (Zr [.k, .p, .p] (RetEv.one rfl (REv.tmp rfl lr)) rfl (BodR.ok (σ := ys ++ [x]) (stFil_ok hq8) hfv ⟨_, rfl, by simp; omega, fun z hz => (List.mem_append.1 hz).elim (hgd z) (fun h => by rw [List.mem_singleton.1 h]; exact hx)⟩))))))))
  obtain rfl : q8 = false := c1
  have hfv := tr_okF (s := { s with it := x }) hw hf ⟨hs.st, hs.ev, hx⟩ h0 hq8
  exact Zk (J.seq (J.reown (Reown.cons (Reown.cons (Reown.shut [_, _, _, _] []))) (J.region_lit (Zq rfl (QW.assign .const) (Zn (J.ret (Zr [.k, .p, .p] (RetEv.one rfl (REv.tmp rfl lr)) rfl (BodR.ok (σ := ys) (stFil_ok hq8) hfv ⟨_, rfl, by omega, hgd⟩))))))))
theorem over3_ok {n : Nat} (ih : EvIH n) {y : EX} {s : ScT} {fr : Bool} (hw : y.wf) (hf : y.Fine) (hs : s.good) (hn : y.sz ≤ n) (b b5 b2 b6 b7 : Nat) {j : Nat} {p : Bool × V} {x : V} {f : Int} {o0 : Own} (hj : j < 32) (hW : wFnd b7 b5 b2 b6 b (y.cs fr) j p o0) (hx : x.good) (h0 : okF f) :
    AC Tryz.prog 108 [mb b { s with it := x } f, o0] [.agg (x.cs false), .c (ptr b2), .c (ptr b6), .c (ptr b7), .c (ptr b5)] (BodR (wFnd b7 b5 b2 b6 b (y.cs fr)) (stFnd y s p x f) j b { s with it := x }) := by
  obtain ⟨zs, rfl, hz5, hzs⟩ := hW
  refine AC.of_J Tryz.func108 rfl Tryz.ntmps108 rfl fun w0 A0 => ?_
  refine J.seq (J.reown (Reown.cons (Reown.open _ _)) (J.region_lit (JL.box_agg (.tmp rfl) rfl fun b5 => Zq rfl (QW.assign .const) (Zn (J.seq (Zs (Zq rfl (QW.load_box1 4 ty155 (.tmp rfl) rfl rfl) (Zq rfl (QW.load_box 5 ty79 (.tmp rfl) rfl (take_at xl rfl) xl) ?_))))))))
  refine JL.callPF [.k, .p] gofn98 rfl Lent.nil (fun _ => (.cons (.tmp rfl) (.cons (.tmp rfl) .nil))) (mtruth_ok (s := { s with it := x }) ih Xc.self hw hf ⟨hs.st, hs.ev, hx⟩ h0 hn) (.inl rfl) (fun k9 x9 o9 h9 => ?_) (fun k9 => ?_)
  rotate_left
  · skip
    refine thenQ.p (thenQ.p ?_)
    exact ⟨_, selP [.k, .k, .k, .k, .k] _, _, rfl, rfl, sel_perm [.k, .k, .k, .k, .k] _, BodR.er (stFnd_er (er_of k9)) k9⟩
  obtain ⟨q9, f9, hq9, rfl, rfl⟩ := h9
  refine JL.store_box 2 ty4 (.tmp rfl) rfl (.tmp rfl) rfl rfl rfl rfl rfl (Zn (Zs (Zq rfl (QW.load_box1 2 ty4 (.tmp rfl) rfl rfl) (Zn ?_))))
  refine J.cond (.tmp rfl) (fun c1 => ?_) (fun c1 => ?_)
  · skip
    obtain rfl : q9 = true := c1
    have hfv := tr_okF (s := { s with it := x }) hw hf ⟨hs.st, hs.ev, hx⟩ h0 hq9
    refine J.region_lit (Zq rfl (QW.load_box 0 ty26 (.tmp rfl) rfl (take_at vl rfl) vl) (JL.store_box 3 ty26 (.tmp rfl) rfl (.tmp rfl) rfl vl (by rw [hz5]; rfl) (splice_all (by show (V.cs _ _).length = _; rw [V.cs_length, hz5])) rfl ?_))
    exact Zn (Zs (Zq rfl (QW.load_box1 2 ty4 (.tmp rfl) rfl rfl) (Zq rfl (QW.not (.tmp rfl)) (JL.reown (Reown.cons (Reown.cons (Reown.shut [_, _, _, _] []))) (Zq rfl (QW.assign (.tmp rfl)) (Zn (J.ret (Zr [.k, .p, .p] (RetEv.one rfl (REv.tmp rfl lr)) rfl (BodR.ok (σ := (true, x)) (stFnd_ok hq9) hfv ⟨_, rfl, vl, fun _ => ⟨rfl, hx⟩⟩)))))))))
  obtain rfl : q9 = false := c1
  have hfv := tr_okF (s := { s with it := x }) hw hf ⟨hs.st, hs.ev, hx⟩ h0 hq9
  exact Zk (Zs (Zq rfl (QW.load_box1 2 ty4 (.tmp rfl) rfl rfl) (Zq rfl (QW.not (.tmp rfl)) (JL.reown (Reown.cons (Reown.cons (Reown.shut [_, _, _, _] []))) (Zq rfl (QW.assign (.tmp rfl)) (Zn (J.ret (Zr [.k, .p, .p] (RetEv.one rfl (REv.tmp rfl lr)) rfl (BodR.ok (σ := (false, p.2)) (stFnd_ok hq9) hfv ⟨_, rfl, hz5, fun h => by cases h⟩)))))))))
end Go.Proofs.YtmccnmahegbmpaaGreat.J

/- Walks: Map, Filter, Find. -/
namespace Go.Proofs.YtmccnmahegbmpaaGreat.J
open Go Go.RowKit
set_option maxRecDepth 10000
set_option maxHeartbeats 4000000
theorem li_wf32 {l : List V} (hl : ∀ x ∈ l, x.good) (hn : l.length ≤ 32) : (V.li l).wf := .mk (by decide) (by decide) (by decide) (by decide) (by unfold reach; omega) (fun _ h => by cases h) (fun x hx => (hl x hx).wf)
theorem Reown.ovL (b6 b5 b4 b3 b2 m : Own) (l : List Own) : Reown (b6 :: b5 :: b4 :: b3 :: b2 :: m :: l) (b4 :: b3 :: m :: .grp [b5, .arr (.slice none 0 0) eV [], b2, b6] :: l) :=
  (Reown.nilArr eV _).trans ⟨fun x => by simp only [fps_cons, fps_nil, fp_grp, List.count_append, List.count_nil]; omega, fun w A h => by
    simp only [List.forall_mem_cons, ok_grp, List.not_mem_nil, false_implies, implies_true, and_true] at h ⊢
    exact ⟨h.2.2.2.1, h.2.2.2.2.1, h.2.2.2.2.2.2.1, ⟨h.2.2.1, h.1, h.2.2.2.2.2.1, h.2.1⟩, h.2.2.2.2.2.2.2⟩⟩
theorem Reown.ovF (b7 b6 b5 b4 b3 b2 m : Own) (l : List Own) : Reown (b7 :: b6 :: b5 :: b4 :: b3 :: b2 :: m :: l) (b4 :: b3 :: m :: .grp [b7, b5, b2, b6] :: l) :=
  ⟨fun x => by simp only [fps_cons, fps_nil, fp_grp, List.count_append, List.count_nil]; omega, fun w A h => by
    simp only [List.forall_mem_cons, ok_grp, List.not_mem_nil, false_implies, implies_true, and_true] at h ⊢
    exact ⟨h.2.2.2.1, h.2.2.2.2.1, h.2.2.2.2.2.2.1, ⟨h.1, h.2.2.1, h.2.2.2.2.2.1, h.2.1⟩, h.2.2.2.2.2.2.2⟩⟩
/-! what the loops come to -/
theorem it_map {y : EX} {s : ScT} : ∀ (l ys : List V) (f : Int), itE (stMap y s) l ys f = match mapE (fun it f => y.ev { s with it } f) l f with
    | .error e => .error e
    | .ok (r, f') => .ok (ys ++ r, f')
  | [], ys, f => by simp [itE, mapE]
  | x :: l, ys, f => by
    rw [itE, mapE, stMap]
    cases h : y.ev { s with it := x } f with
    | error c => rfl
    | ok p =>
      obtain ⟨v, f1⟩ := p
      simp only [if_true]
      rw [it_map l (ys ++ [v]) f1]
      cases mapE (fun it f => y.ev { s with it } f) l f1 with
      | error c => rfl
      | ok q => simp
theorem it_fil {y : EX} {s : ScT} : ∀ (l ys : List V) (f : Int), itE (stFil y s) l ys f = match filE (fun it f => truE (y.ev { s with it } f)) l f with
    | .error e => .error e
    | .ok (r, f') => .ok (ys ++ r, f')
  | [], ys, f => by simp [itE, filE]
  | x :: l, ys, f => by
    rw [itE, filE, stFil]
    cases h : truE (y.ev { s with it := x } f) with
    | error c => rfl
    | ok p =>
      obtain ⟨t, f1⟩ := p
      simp only [if_true]
      rw [it_fil l _ f1]
      cases filE (fun it f => truE (y.ev { s with it } f)) l f1 with
      | error c => rfl
      | ok q => cases t <;> simp
def fndX (x : Except Int ((Bool × V) × Int)) : ER V := match x with
    | .error e => .error e
    | .ok ((t, x), f') => if t then .ok (x, f') else .error 71
theorem it_fnd {y : EX} {s : ScT} : ∀ (l : List V) (p : Bool × V) (f : Int), p.1 = false → fndE (fun it f => truE (y.ev { s with it } f)) l f = fndX (itE (stFnd y s) l p f)
  | [], ⟨t, v⟩, f, h => by cases h; rfl
  | x :: l, p, f, h => by
    rw [itE, fndE, stFnd]
    cases h : truE (y.ev { s with it := x } f) with
    | error c => rfl
    | ok q =>
      obtain ⟨t, f1⟩ := q
      cases t with
      | true => rfl
      | false => exact it_fnd l (false, p.2) f1 rfl
def ovG (y : EX) (s : ScT) : V → Int → ER V := fun it f => y.ev { s with it } f
theorem ev_ov (o : Int) (a y : EX) (s : ScT) (f : Int) : EX.evOv o [a, y] s f = overE o (ovG y s) (a.ev s f) := by unfold EX.evOv; rfl
theorem ovMap {y : EX} {s : ScT} {r : ER V} {x : Except Int (List V × Int)} (h : itemsE (stMap y s) [] r = x) : overE 27 (ovG y s) r = madeF x := by
  subst h
  cases r with
  | error c => rfl
  | ok p =>
    obtain ⟨v, f⟩ := p
    unfold overE itemsE
    by_cases hk : v.kind = 4
    · simp only [hk]; rw [it_map]; show madeF (mapE (ovG y s) v.items f) = _; unfold ovG; cases mapE (fun it f => y.ev { s with it } f) v.items f <;> rfl
    · simp only [ne_eq, hk, not_false_eq_true, if_true]; rfl
theorem ovFil {y : EX} {s : ScT} {r : ER V} {x : Except Int (List V × Int)} (h : itemsE (stFil y s) [] r = x) : overE 28 (ovG y s) r = madeF x := by
  subst h
  cases r with
  | error c => rfl
  | ok p =>
    obtain ⟨v, f⟩ := p
    unfold overE itemsE
    by_cases hk : v.kind = 4
    · simp only [hk]; rw [it_fil]; show madeF (filE (fun x f => truE (ovG y s x f)) v.items f) = _; unfold ovG; cases filE (fun it f => truE (y.ev { s with it } f)) v.items f <;> rfl
    · simp only [ne_eq, hk, not_false_eq_true, if_true]; rfl
theorem ovFnd {y : EX} {s : ScT} {r : ER V} {x : Except Int ((Bool × V) × Int)} (h : itemsE (stFnd y s) (false, .nil) r = x) : overE 29 (ovG y s) r = fndX x := by
  subst h
  cases r with
  | error c => rfl
  | ok p =>
    obtain ⟨v, f⟩ := p
    by_cases hk : v.kind = 4
    · rw [show itemsE (stFnd y s) (false, .nil) (.ok (v, f)) = itE (stFnd y s) v.items (false, .nil) f from if_neg (fun h => h hk), show overE 29 (ovG y s) (.ok (v, f)) = fndE (fun x f => truE (ovG y s x f)) v.items f from (if_neg (fun h => h hk)).trans rfl]
      exact it_fnd v.items (false, .nil) f rfl
    · rw [show itemsE (stFnd y s) (false, .nil) (.ok (v, f)) = .error 81 from if_pos hk, show overE 29 (ovG y s) (.ok (v, f)) = .error 81 from if_pos hk]; rfl
theorem madeF_yes {l : List V} {f : Int} (h : (V.li l).err = 0) : madeF (.ok (l, f)) = .ok (.li l, f) := by unfold madeF madeE; simp only [h, if_true]
theorem madeF_no {l : List V} {f : Int} (h : ¬ (V.li l).err = 0) : madeF (.ok (l, f)) = .error 84 := by unfold madeF madeE; simp only [h, if_false]
theorem mover_ok {n : Nat} (ih : EvIH n) {o : Int} {bb : Nat} {t : Str} {a y : EX} {s : ScT} {f : Int} {b : Nat} {fr : Bool} {ys : List AV} (he : Xc fr (.mk o bb t [a, y]) ys) (ho : o = 27 ∨ o = 28 ∨ o = 29) (hwa : a.wf) (hwy : y.wf) (hfa : a.Fine) (hfy : y.Fine) (hna : a.sz ≤ n) (hny : y.sz ≤ n) (hs : s.good) (h0 : okF f) :
    AC Tryz.prog 99 [mb b s f] [pb b, .agg ys] (EvR (EX.evOv o [a, y] s f) b s) := by
  subst he
  refine AC.of_J Tryz.func99 rfl Tryz.ntmps99 rfl fun w0 A0 => ?_
  refine Zs (JL.box_one (.tmp rfl) rfl rfl fun b2 => JL.box_agg (.tmp rfl) rfl fun b3 => JL.alloc z26 rfl rfl fun b4 => Zn (Zs (Zq rfl (QW.build (idx := [0]) pl26 z26 rfl (.cons .const .nil) rfl rfl rfl rfl) (JL.alloc z26 rfl rfl fun b5 => JL.store_boxF 0 ty26 (.tmp rfl) rfl (.tmp rfl) rfl rfl rfl rfl (Zn ?_)))))
  refine J.seq (Zs (Zq rfl (QW.field_ptr fo79_3 (.tmp rfl) rfl) (Zq rfl (QW.load_box1 2 ty77 (.tmp rfl) rfl rfl) (Zq rfl (QW.index_sl sl77 ty79 rfl (.tmp rfl) .const rfl (by rfl)) ?_))))
  refine Zq rfl (QW.load_ref ty79 (.tmp rfl) (take_at0 xl rfl) xl) (JL.alloc z79 rfl rfl fun b6 => JL.store_boxF 0 ty79 (.tmp rfl) rfl (.tmp rfl) rfl xl rfl rfl (Zn (Zs (Zq rfl (QW.field_ptr fo79_0 (.tmp rfl) rfl) (Zq rfl (QW.load_box1 3 ty3 (.tmp rfl) rfl rfl) (Zn (J.block (Zs ?_))))))))
  refine Zq rfl (QW.eql (.tmp rfl) .const) (Zq rfl (QW.assign (.tmp rfl)) (Zn ?_))
  refine J.cond (.tmp rfl) (fun c1 => ?_) (fun c1 => ?_)
  · skip
    obtain rfl : o = 27 := by simpa using c1
    refine J.regionX mixed (Zo 0 4 [] rfl (fun _ ho_ => QW.load_box1 4 ty155 (.tmp rfl) ho_ rfl) (Zf 1 [] rfl (fun _ => QW.field_ptr fo79_3 (.tmp rfl) rfl) (Zo 2 3 [28] rfl (fun _ ho_ => QW.load_box1 3 ty77 (.tmp rfl) ho_ rfl) (Zf 3 [29] rfl (fun _ => QW.index_sl sl77 ty79 rfl (.tmp rfl) .const rfl (by rfl)) ?_))))
    refine Zf 4 [30] rfl (fun _ => QW.load_ref ty79 (.tmp rfl) (take_at0 xl rfl) xl) (Zf 5 [] rfl (fun _ => QW.mkFunc .nil (.cons (.tmp rfl) (.cons (.tmp rfl) (.cons (.tmp rfl) .nil)))) (JX.one 6 [true, true, true, true, true, true] rfl (by kernel_rfl) (by kernel_rfl) rfl rfl (by kernel_rfl) rfl fun bs6_ pe_ ex_ => ?_))
    refine JL.conv (by (try simp only [vlF, bxF, tkM, lvM, Flt.val, Flt.bx, nx, nl, stepsO, valO, nthO, curO, mrg, AV.cellsOf, splice_zero, splice_succ, Nat.reduceAdd]); rfl) ?_
    refine JL.reown (Reown.ovL _ _ _ _ _ _ _) ?_
    refine JL.callPF [.k, .k, .p, .p] gofn105 rfl Lent.nil (fun _ => (.cons (.tmp rfl) (.cons (.tmp rfl) (.cons (.tmp rfl) .nil)))) (mitems_ok (W := wLst b5 b2 b6 b (y.cs fr)) (stp := stMap y s) (ca := [ptr b5, ptr b2, ptr b6]) ih gofn106 (fun j σ x f o0 hj hW hx h0 => over1_ok ih hwy hfy hs hny b b5 b2 b6 hj hW hx h0) Xc.self hwa hfa hs h0 hna (σ0 := []) ⟨_, rfl, Nat.le_refl _, fun _ h => by cases h⟩) (.inl rfl) (fun k33 x33 o33 h33 => ?_) (fun k33 => ?_)
    rotate_left
    · skip
      refine thenQ.p (blkQ.p (thenQ.p ?_))
      exact ⟨_, selP [.k, .k] _, _, rfl, rfl, sel_perm [.k, .k] _, EvR.er ((ev_ov 27 a y s f).trans (ovMap (er_of k33))) k33⟩
    obtain ⟨σ1, f1, j1, o1_, hi1, hj1, ⟨v1, rfl, hl1, hgd1⟩, hf1, rfl, rfl⟩ := h33
    refine JL.nil ?_
    refine thenQ.n ⟨[_], _, rfl, rfl, rfl, rfl, rfl, Reown.mrgN 4 rfl rfl, ⟨rfl, rfl⟩, trivial, ?_⟩
    refine JX.conv (S' := [6, 5, 4, 3, 2, 1, 0]) rfl (by (try simp only [lvM]); rfl) (by (try simp only [vlF, bxF, tkM, lvM, Flt.val, Flt.bx, nx, nl, stepsO, valO, nthO, curO, mrg, AV.cellsOf, splice_zero, splice_succ, Nat.reduceAdd]); rfl) ?_
    refine JX.fin (by kernel_rfl) (by kernel_rfl) fun bs_ => ?_
    refine QX.conv (by (try simp only [vlF, bxF, tkM, lvM, Flt.val, Flt.bx, nx, nl, stepsO, valO, nthO, curO, mrg, AV.cellsOf, splice_zero, splice_succ, Nat.reduceAdd]); rfl) ?_
    refine blkQ.n (thenQ.n (J.seq (J.reown (Reown.cons (Reown.cons (Reown.cons (Reown.open _ [])))) (J.closeArr 4 rfl (by rw [V.css_length]; show _ * 80 ≤ _; unfold reach; omega) rfl (fun z hz => by simp only [mb, fps_cons, fps_nil, Own.fp, List.append_nil, List.mem_singleton] at hz; subst hz; simp [mb, fps_cons, Own.fp]) ?_))))
    refine J.region_lit (Zq rfl (QW.load_box 3 ty26 (.tmp rfl) rfl rfl rfl) ?_)
    refine JL.callPF [] gofn109 rfl Lent.nil (fun _ => (.cons (Ev.le (.tmp rfl) (.aggL (.cons lr (.cons lr (.cons lr (.cons (.nil false false _) (.cons (.fact (by simp) (.slL (fr := true) (clip := false) (fun h => by cases h) rfl (V.css_sz false _) (.refl _))) .nil))))))) .nil)) (made_ok (fr := false) (v := .li σ1) Vc.self (li_wf32 hgd1 (by omega))) (.inl rfl) (fun k44 x44 o44 h44 => ?_) (fun k44 => ?_)
    rotate_left
    · skip
      refine thenQ.p ?_
      exact ⟨_, selP [.k, .k, .k, .k, .k, .k] _, _, rfl, rfl, sel_perm [.k, .k, .k, .k, .k, .k] _, EvR.er (c := 84) ((ev_ov 27 a y s f).trans ((ovMap hi1).trans (madeF_no k44))) (by decide)⟩
    obtain ⟨rfl, rfl⟩ := h44
    exact JL.store_boxF 0 ty26 (.tmp rfl) rfl (.tmp rfl) rfl rfl rfl rfl (Zn (J.ret (Zr [.k, .k, .p, .k, .k, .k] (RetEv.one rfl (REv.cell 0 ty26 rfl rfl rfl rfl lr)) rfl (EvR.ok ((ev_ov 27 a y s f).trans ((ovMap hi1).trans (madeF_yes k44)))))))
  have n27 : ¬ o = 27 := by simpa using c1
  refine Zs (Zq rfl (QW.eql (.tmp rfl) .const) (Zq rfl (QW.assign (.tmp rfl)) (Zn ?_)))
  refine J.cond (.tmp rfl) (fun c2 => ?_) (fun c2 => ?_)
  · skip
    obtain rfl : o = 28 := by simpa using c2
    refine J.regionX mixed (Zo 0 4 [] rfl (fun _ ho_ => QW.load_box1 4 ty155 (.tmp rfl) ho_ rfl) (Zf 1 [] rfl (fun _ => QW.field_ptr fo79_3 (.tmp rfl) rfl) (Zo 2 3 [37] rfl (fun _ ho_ => QW.load_box1 3 ty77 (.tmp rfl) ho_ rfl) (Zf 3 [38] rfl (fun _ => QW.index_sl sl77 ty79 rfl (.tmp rfl) .const rfl (by rfl)) ?_))))
    refine Zf 4 [39] rfl (fun _ => QW.load_ref ty79 (.tmp rfl) (take_at0 xl rfl) xl) (Zf 5 [] rfl (fun _ => QW.mkFunc .nil (.cons (.tmp rfl) (.cons (.tmp rfl) (.cons (.tmp rfl) .nil)))) (JX.one 6 [true, true, true, true, true, true] rfl (by kernel_rfl) (by kernel_rfl) rfl rfl (by kernel_rfl) rfl fun bs6_ pe_ ex_ => ?_))
    refine JL.conv (by (try simp only [vlF, bxF, tkM, lvM, Flt.val, Flt.bx, nx, nl, stepsO, valO, nthO, curO, mrg, AV.cellsOf, splice_zero, splice_succ, Nat.reduceAdd]); rfl) ?_
    refine JL.reown (Reown.ovL _ _ _ _ _ _ _) ?_
    refine JL.callPF [.k, .k, .p, .p] gofn105 rfl Lent.nil (fun _ => (.cons (.tmp rfl) (.cons (.tmp rfl) (.cons (.tmp rfl) .nil)))) (mitems_ok (W := wLst b5 b2 b6 b (y.cs fr)) (stp := stFil y s) (ca := [ptr b2, ptr b6, ptr b5]) ih gofn107 (fun j σ x f o0 hj hW hx h0 => over2_ok ih hwy hfy hs hny b b5 b2 b6 hj hW hx h0) Xc.self hwa hfa hs h0 hna (σ0 := []) ⟨_, rfl, Nat.le_refl _, fun _ h => by cases h⟩) (.inl rfl) (fun k42 x42 o42 h42 => ?_) (fun k42 => ?_)
    rotate_left
    · skip
      refine thenQ.p (blkQ.p (thenQ.p ?_))
      exact ⟨_, selP [.k, .k] _, _, rfl, rfl, sel_perm [.k, .k] _, EvR.er ((ev_ov 28 a y s f).trans (ovFil (er_of k42))) k42⟩
    obtain ⟨σ1, f1, j1, o1_, hi1, hj1, ⟨v1, rfl, hl1, hgd1⟩, hf1, rfl, rfl⟩ := h42
    refine JL.nil ?_
    refine thenQ.n ⟨[_], _, rfl, rfl, rfl, rfl, rfl, Reown.mrgN 4 rfl rfl, ⟨rfl, rfl⟩, trivial, ?_⟩
    refine JX.conv (S' := [6, 5, 4, 3, 2, 1, 0]) rfl (by (try simp only [lvM]); rfl) (by (try simp only [vlF, bxF, tkM, lvM, Flt.val, Flt.bx, nx, nl, stepsO, valO, nthO, curO, mrg, AV.cellsOf, splice_zero, splice_succ, Nat.reduceAdd]); rfl) ?_
    refine JX.fin (by kernel_rfl) (by kernel_rfl) fun bs_ => ?_
    refine QX.conv (by (try simp only [vlF, bxF, tkM, lvM, Flt.val, Flt.bx, nx, nl, stepsO, valO, nthO, curO, mrg, AV.cellsOf, splice_zero, splice_succ, Nat.reduceAdd]); rfl) ?_
    refine blkQ.n (thenQ.n (J.seq (J.reown (Reown.cons (Reown.cons (Reown.cons (Reown.open _ [])))) (J.closeArr 4 rfl (by rw [V.css_length]; show _ * 80 ≤ _; unfold reach; omega) rfl (fun z hz => by simp only [mb, fps_cons, fps_nil, Own.fp, List.append_nil, List.mem_singleton] at hz; subst hz; simp [mb, fps_cons, Own.fp]) ?_))))
    refine J.region_lit (Zq rfl (QW.load_box 3 ty26 (.tmp rfl) rfl rfl rfl) ?_)
    refine JL.callPF [] gofn109 rfl Lent.nil (fun _ => (.cons (Ev.le (.tmp rfl) (.aggL (.cons lr (.cons lr (.cons lr (.cons (.nil false false _) (.cons (.fact (by simp) (.slL (fr := true) (clip := false) (fun h => by cases h) rfl (V.css_sz false _) (.refl _))) .nil))))))) .nil)) (made_ok (fr := false) (v := .li σ1) Vc.self (li_wf32 hgd1 (by omega))) (.inl rfl) (fun k44 x44 o44 h44 => ?_) (fun k44 => ?_)
    rotate_left
    · skip
      refine thenQ.p ?_
      exact ⟨_, selP [.k, .k, .k, .k, .k, .k] _, _, rfl, rfl, sel_perm [.k, .k, .k, .k, .k, .k] _, EvR.er (c := 84) ((ev_ov 28 a y s f).trans ((ovFil hi1).trans (madeF_no k44))) (by decide)⟩
    obtain ⟨rfl, rfl⟩ := h44
    exact JL.store_boxF 0 ty26 (.tmp rfl) rfl (.tmp rfl) rfl rfl rfl rfl (Zn (J.ret (Zr [.k, .k, .p, .k, .k, .k] (RetEv.one rfl (REv.cell 0 ty26 rfl rfl rfl rfl lr)) rfl (EvR.ok ((ev_ov 28 a y s f).trans ((ovFil hi1).trans (madeF_yes k44)))))))
  have n28 : ¬ o = 28 := by simpa using c2
  obtain rfl : o = 29 := by omega
  refine Zs (JL.alloc z4 rfl rfl fun b7 => JL.store_box 0 ty4 (.tmp rfl) rfl .const rfl rfl rfl rfl rfl (Zn (J.seq (J.regionX mixed (Zo 0 5 [] rfl (fun _ ho_ => QW.load_box1 5 ty155 (.tmp rfl) ho_ rfl) (Zf 1 [] rfl (fun _ => QW.field_ptr fo79_3 (.tmp rfl) rfl) (Zo 2 4 [16] rfl (fun _ ho_ => QW.load_box1 4 ty77 (.tmp rfl) ho_ rfl) (Zf 3 [17] rfl (fun _ => QW.index_sl sl77 ty79 rfl (.tmp rfl) .const rfl (by rfl)) ?_))))))))
  refine Zf 4 [18] rfl (fun _ => QW.load_ref ty79 (.tmp rfl) (take_at0 xl rfl) xl) (Zf 5 [] rfl (fun _ => QW.mkFunc .nil (.cons (.tmp rfl) (.cons (.tmp rfl) (.cons (.tmp rfl) (.cons (.tmp rfl) .nil))))) (JX.one 6 [true, true, true, true, true, true] rfl (by kernel_rfl) (by kernel_rfl) rfl rfl (by kernel_rfl) rfl fun bs6_ pe_ ex_ => ?_))
  refine JL.conv (by (try simp only [vlF, bxF, tkM, lvM, Flt.val, Flt.bx, nx, nl, stepsO, valO, nthO, curO, mrg, AV.cellsOf, splice_zero, splice_succ, Nat.reduceAdd]); rfl) ?_
  refine JL.reown (Reown.ovF _ _ _ _ _ _ _ _) ?_
  refine JL.callPF [.k, .k, .p, .p] gofn105 rfl Lent.nil (fun _ => (.cons (.tmp rfl) (.cons (.tmp rfl) (.cons (.tmp rfl) .nil)))) (mitems_ok (W := wFnd b7 b5 b2 b6 b (y.cs fr)) (stp := stFnd y s) (ca := [ptr b2, ptr b6, ptr b7, ptr b5]) ih gofn108 (fun j σ x f o0 hj hW hx h0 => over3_ok ih hwy hfy hs hny b b5 b2 b6 b7 hj hW hx h0) Xc.self hwa hfa hs h0 hna (σ0 := (false, .nil)) ⟨_, rfl, rfl, fun h => by cases h⟩) (.inl rfl) (fun k21 x21 o21 h21 => ?_) (fun k21 => ?_)
  rotate_left
  · skip
    refine thenQ.p (thenQ.p (blkQ.p (thenQ.p ?_)))
    exact ⟨_, selP [.k, .k] _, _, rfl, rfl, sel_perm [.k, .k] _, EvR.er ((ev_ov 29 a y s f).trans (ovFnd (er_of k21))) k21⟩
  obtain ⟨⟨t1, x1⟩, f1, j1, o1_, hi1, hj1, ⟨zs, rfl, hz5, hzs⟩, hf1, rfl, rfl⟩ := h21
  refine JL.nil ?_
  refine thenQ.n ⟨[_], _, rfl, rfl, rfl, rfl, rfl, Reown.mrgN 4 rfl rfl, ⟨rfl, rfl⟩, trivial, ?_⟩
  refine JX.conv (S' := [6, 5, 4, 3, 2, 1, 0]) rfl (by (try simp only [lvM]); rfl) (by (try simp only [vlF, bxF, tkM, lvM, Flt.val, Flt.bx, nx, nl, stepsO, valO, nthO, curO, mrg, AV.cellsOf, splice_zero, splice_succ, Nat.reduceAdd]); rfl) ?_
  refine JX.fin (by kernel_rfl) (by kernel_rfl) fun bs_ => ?_
  refine QX.conv (by (try simp only [vlF, bxF, tkM, lvM, Flt.val, Flt.bx, nx, nl, stepsO, valO, nthO, curO, mrg, AV.cellsOf, splice_zero, splice_succ, Nat.reduceAdd]); rfl) ?_
  refine thenQ.n (J.seq (J.reown (Reown.cons (Reown.cons (Reown.cons (Reown.open _ [])))) (J.region_lit (Zq rfl (QW.load_box1 3 ty4 (.tmp rfl) rfl rfl) ?_))))
  refine JL.callPF [] gofn95 rfl Lent.nil (fun _ => (.cons (.tmp rfl) (.cons .const .nil))) (nd_ok _ _) (.inl rfl) (fun k23 x23 o23 h23 => ?_) (fun k23 => ?_)
  rotate_left
  · skip
    refine thenQ.p (blkQ.p (thenQ.p ?_))
    exact ⟨_, selP [.k, .k, .k, .k, .k, .k, .k] _, _, rfl, rfl, sel_perm [.k, .k, .k, .k, .k, .k, .k] _, EvR.er (c := 71) ((ev_ov 29 a y s f).trans ((ovFnd hi1).trans (if_neg k23))) (by decide)⟩
  obtain ⟨rfl, rfl⟩ := h23
  refine Zn (J.seq ?_)
  obtain ⟨rfl, hgx⟩ := hzs k23
  exact J.region_lit (Zq rfl (QW.load_box 4 ty26 (.tmp rfl) rfl (take_at vl rfl) vl) (JL.store_boxF 0 ty26 (.tmp rfl) rfl (.tmp rfl) rfl vl rfl rfl (Zn (J.ret (blkQ.r (thenQ.r (Zr [.k, .k, .p, .k, .k, .k, .k] (RetEv.one rfl (REv.cell 0 ty26 rfl rfl (take_at vl rfl) vl lr)) rfl (EvR.ok ((ev_ov 29 a y s f).trans ((ovFnd hi1).trans (if_pos k23)))))))))))
end Go.Proofs.YtmccnmahegbmpaaGreat.J

/- What the machine's branches come to, plain. -/
namespace Go.Proofs.YtmccnmahegbmpaaGreat.J
open Go Go.RowKit
theorem EX.ok_args {o : Int} {b : Nat} {t : Str} {l : List EX} (h : (EX.mk o b t l).ok = true) : 0 ≤ o ∧ o < 30 ∧ l.length ≤ 8 ∧ (o = 23 ∨ o ≤ 7 ∨ ((o = 8 ∨ o = 10 ∨ o = 15 ∨ o = 20 ∨ o = 26) ∧ l.length = 1) ∨ (o = 21 ∧ l.length = 3) ∨ (8 ≤ o ∧ o ≠ 8 ∧ o ≠ 10 ∧ o ≠ 15 ∧ o ≠ 20 ∧ o ≠ 26 ∧ o ≠ 21 ∧ o ≠ 23 ∧ l.length = 2)) := by
  have hb := EX.ok_bounds h
  simp only [EX.ok, Bool.and_eq_true, Bool.or_eq_true, decide_eq_true_eq, beq_iff_eq] at h
  obtain ⟨⟨⟨⟨⟨-, h1⟩, -⟩, -⟩, -⟩, -⟩ := h
  simp only [EX.op, EX.args] at h1
  unfold argsN at h1
  refine ⟨hb.1, hb.2.1, hb.2.2.2, ?_⟩
  repeat' split at h1
  all_goals omega
theorem etwo {l : List EX} (h : l.length = 2) : ∃ a b, l = [a, b] := by
  match l, h with
  | [a, b], _ => exact ⟨a, b, rfl⟩
theorem ethree {l : List EX} (h : l.length = 3) : ∃ a b c, l = [a, b, c] := by
  match l, h with
  | [a, b, c], _ => exact ⟨a, b, c, rfl⟩
section
variable {o : Int} {b : Nat} {t : Str} {l : List EX} {s : ScT} {f : Int} {a y z : EX}
theorem ev_lo (h : f < 1) : (EX.mk o b t l).ev s f = .error 83 := by rw [EX.ev, if_pos h]
theorem ev_0 (h : ¬ f < 1) : (EX.mk 0 b t l).ev s f = .ok (.nil, f - 1) := by rw [EX.ev, if_neg h]; rfl
theorem ev_1 (h : ¬ f < 1) : (EX.mk 1 b t l).ev s f = .ok (.tr false, f - 1) := by rw [EX.ev, if_neg h]; rfl
theorem ev_2 (h : ¬ f < 1) : (EX.mk 2 b t l).ev s f = .ok (.tr true, f - 1) := by rw [EX.ev, if_neg h]; rfl
theorem ev_3 (h : ¬ f < 1) : (EX.mk 3 b t l).ev s f = .ok (.nu b, f - 1) := by rw [EX.ev, if_neg h]; rfl
theorem ev_4 (h : ¬ f < 1) : (EX.mk 4 b t l).ev s f = .ok (.tx t, f - 1) := by rw [EX.ev, if_neg h]; rfl
theorem ev_5 (h : ¬ f < 1) : (EX.mk 5 b t l).ev s f = .ok (s.st, f - 1) := by rw [EX.ev, if_neg h]; rfl
theorem ev_6 (h : ¬ f < 1) : (EX.mk 6 b t l).ev s f = .ok (s.ev, f - 1) := by rw [EX.ev, if_neg h]; rfl
theorem ev_7 (h : ¬ f < 1) : (EX.mk 7 b t l).ev s f = .ok (s.it, f - 1) := by rw [EX.ev, if_neg h]; rfl
theorem ev_18 (h : ¬ f < 1) : (EX.mk 18 b t l).ev s f = EX.evAO false l s (f - 1) := by rw [EX.ev, if_neg h]; rfl
theorem ev_19 (h : ¬ f < 1) : (EX.mk 19 b t l).ev s f = EX.evAO true l s (f - 1) := by rw [EX.ev, if_neg h]; rfl
theorem ev_21 (h : ¬ f < 1) : (EX.mk 21 b t l).ev s f = EX.evIf l s (f - 1) := by rw [EX.ev, if_neg h]; rfl
theorem ev_over (ho : o = 27 ∨ o = 28 ∨ o = 29) (h : ¬ f < 1) : (EX.mk o b t l).ev s f = EX.evOv o l s (f - 1) := by
  rcases ho with rfl | rfl | rfl <;> (rw [EX.ev, if_neg h]; rfl)
def plE (o : Int) (t : Str) (r : ER (List V)) : ER V := match r with
  | .error e => .error e
  | .ok (vs, f1) => match plainE o t vs with
    | .error e => .error e
    | .ok v => .ok (v, f1)
theorem ev_pl (h : ¬ f < 1) (hn : o = 23 ∨ (8 ≤ o ∧ o ≠ 18 ∧ o ≠ 19 ∧ o ≠ 21 ∧ o ≠ 27 ∧ o ≠ 28 ∧ o ≠ 29)) : (EX.mk o b t l).ev s f = plE o t (EX.evs l s (f - 1)) := by
  rw [EX.ev, if_neg h, if_neg (by omega), if_neg (by omega), if_neg (by omega), if_neg (by omega), if_neg (by omega), if_neg (by omega), if_neg (by omega), if_neg (by omega), if_neg (by omega), if_neg (by omega), if_neg (by omega), if_neg (by omega)]
  rfl
theorem plE_ok {vs : List V} {v : V} {r : ER (List V)} {f1 : Int} (h : r = .ok (vs, f1)) (h2 : plainE o t vs = .ok v) : plE o t r = .ok (v, f1) := by subst h; simp only [plE, h2]
theorem plE_er {vs : List V} {r : ER (List V)} {f1 c : Int} (h : r = .ok (vs, f1)) (h2 : plainE o t vs = .error c) : plE o t r = .error c := by subst h; simp only [plE, h2]
theorem plE_no {r : ER (List V)} {c : Int} (h : r = .error c) : plE o t r = .error c := by subst h; rfl
theorem ao_er {k : Bool} {c : Int} (h : truE (a.ev s f) = .error c) : EX.evAO k [a, y] s f = .error c := by unfold EX.evAO; rw [h]
theorem ao_1 {k : Bool} {f1 : Int} (h : truE (a.ev s f) = .ok (k, f1)) : EX.evAO k [a, y] s f = .ok (.tr k, f1) := by unfold EX.evAO; rw [h]; simp
theorem ao_2 {k : Bool} {f1 c : Int} (h : truE (a.ev s f) = .ok (!k, f1)) (h2 : truE (y.ev s f1) = .error c) : EX.evAO k [a, y] s f = .error c := by unfold EX.evAO; rw [h]; cases k <;> simp [h2]
theorem ao_3 {k b2 : Bool} {f1 f2 : Int} (h : truE (a.ev s f) = .ok (!k, f1)) (h2 : truE (y.ev s f1) = .ok (b2, f2)) : EX.evAO k [a, y] s f = .ok (.tr b2, f2) := by unfold EX.evAO; rw [h]; cases k <;> simp [h2]
theorem if_er {c : Int} (h : truE (a.ev s f) = .error c) : EX.evIf [a, y, z] s f = .error c := by unfold EX.evIf; rw [h]
theorem if_t {f1 : Int} (h : truE (a.ev s f) = .ok (true, f1)) : EX.evIf [a, y, z] s f = y.ev s f1 := by unfold EX.evIf; rw [h]; rfl
theorem if_f {f1 : Int} (h : truE (a.ev s f) = .ok (false, f1)) : EX.evIf [a, y, z] s f = z.ev s f1 := by unfold EX.evIf; rw [h]; rfl
def joinV (vs : List V) : ER (List V) → ER (List V)
  | .error e => .error e
  | .ok (r, f) => .ok (vs ++ r, f)
theorem joinV_nil (r : ER (List V)) : r = joinV [] r := by cases r <;> rfl
theorem evs_bad {j : Nat} {vs : List V} {c : Int} (hj : j < l.length) (h : l[j].ev s f = .error c) : joinV vs (EX.evs (l.drop j) s f) = .error c := by
  rw [List.drop_eq_getElem_cons hj, EX.evs, h]; rfl
theorem evs_step {j : Nat} {vs : List V} {v : V} {f1 : Int} (hj : j < l.length) (h : l[j].ev s f = .ok (v, f1)) : joinV vs (EX.evs (l.drop j) s f) = joinV (vs ++ [v]) (EX.evs (l.drop (j + 1)) s f1) := by
  rw [List.drop_eq_getElem_cons hj, EX.evs, h]
  simp only []
  cases EX.evs (l.drop (j + 1)) s f1 with
  | error c => rfl
  | ok p => simp [joinV]
theorem evs_done {vs : List V} : joinV vs (EX.evs [] s f) = .ok (vs, f) := by rw [EX.evs]; simp [joinV]
theorem fillOne {e : ETy} {base z : List AV} (hz : z.length = e.sz) (hb : base.length = e.sz := by rfl) : fillA (fun i => some (i * e.sz, e.sz)) base [(0, z)] = some [z].flatten := by
  have h1 : splice base 0 z = z := splice_all (by rw [hz, hb])
  have h2 : Nat.ble e.sz e.sz = true := Nat.ble_eq_true_of_le (Nat.le_refl _)
  simp [fillA, hz, hb, h1, h2]
theorem allOne {e : ETy} {z : List AV} (hz : z.length = e.sz) : (([z] : List (List AV)).all fun x => Nat.beq x.length e.sz) = true := by simp [hz]
theorem css_snoc (vs : List V) (v : V) : V.css false vs ++ [v.cs false] = V.css false (vs ++ [v]) := by
  induction vs with
  | nil => rfl
  | cons x r ih => rw [List.cons_append, V.css, V.css, ← ih]; rfl
end
end Go.Proofs.YtmccnmahegbmpaaGreat.J

