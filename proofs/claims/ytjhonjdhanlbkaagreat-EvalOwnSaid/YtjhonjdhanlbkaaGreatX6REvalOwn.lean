/- Texts of this proof, laid together. -/
import Derived.Test.YtjhonjdhanlbkaaGreatX5REvalOwn
import Derived.Laws.MakeOwn
set_option linter.unusedVariables false
set_option linter.unusedSimpArgs false
/- Walks: sizes, checks of expressions; are two one. -/
namespace Go.Proofs.YtjhonjdhanlbkaaGreat.J
open Go Go.RowKit
set_option maxRecDepth 10000
set_option maxHeartbeats 4000000
theorem told_nil (c : Nat) (z : Int) : AC Tryz.prog 41 [ibox c z] [.c .nilIface, .c (.pointer (some ⟨c, 0, none⟩))] (RetR fun x o => x = .c (.bool false) ∧ o = [ibox c z]) := by
  refine AC.of_J Tryz.func41 rfl Tryz.ntmps41 rfl fun w0 A0 => ?_
  refine Zs (Zq rfl (QW.assign .const) (Zn (Zs (Zq rfl (QW.move (.tmp rfl)) (Zq rfl (QW.assert_nil ⟨_, Tryz.underlying38, by intro ms h; cases h⟩ zeroErrno (.tmp rfl)) ?_)))))
  refine Zq rfl (QW.move (.tmp rfl)) (Zq rfl (QW.extract (.tmp rfl) rfl) (Zq rfl (QW.extract (.tmp rfl) rfl) (Zq rfl (QW.assign (.tmp rfl)) (Zq rfl (QW.assign (.tmp rfl)) (Zn (J.seq (Zs (Zq rfl (QW.move (.tmp rfl)) (Zn ?_)))))))))
  refine J.cond (.tmp rfl) (fun c1 => absurd c1 (by simp)) (fun c1 => ?_)
  exact Zk (Zs (Zq rfl (QW.move (.tmp rfl)) (Zq rfl (QW.assign (.tmp rfl)) (Zn (J.ret (Zr [.p] (RetEv.one rfl (REv.tmp rfl lr)) rfl ⟨_, rfl, rfl, rfl⟩))))))
theorem told_hit (c : Nat) (z e : Int) : AC Tryz.prog 41 [ibox c z] [.c (errV e), .c (.pointer (some ⟨c, 0, none⟩))] (RetR fun x o => x = .c (.bool true) ∧ o = [ibox c e]) := by
  refine AC.of_J Tryz.func41 rfl Tryz.ntmps41 rfl fun w0 A0 => ?_
  refine Zs (Zq rfl (QW.assign .const) (Zn (Zs (Zq rfl (QW.move (.tmp rfl)) (Zq rfl (QW.assert_hit ⟨_, Tryz.underlying38, by intro ms h; cases h⟩ (.tmp rfl)) ?_)))))
  refine Zq rfl (QW.move (.tmp rfl)) (Zq rfl (QW.extract (.tmp rfl) rfl) (Zq rfl (QW.extract (.tmp rfl) rfl) (Zq rfl (QW.assign (.tmp rfl)) (Zq rfl (QW.assign (.tmp rfl)) (Zn (J.seq (Zs (Zq rfl (QW.move (.tmp rfl)) (Zn ?_)))))))))
  refine J.cond (.tmp rfl) (fun c1 => ?_) (fun c1 => absurd c1 (by simp))
  refine J.region_lit (Zq rfl (QW.move (.tmp rfl)) (Zq rfl (QW.move (.tmp rfl)) (Zq rfl (QW.nil_ptr (.tmp rfl)) (JL.store_box 0 ty38 (.tmp rfl) rfl (.tmp rfl) rfl rfl rfl rfl rfl (Zn (Zs (Zq rfl (QW.move (.tmp rfl)) (Zq rfl (QW.assign (.tmp rfl)) (Zn ?_)))))))))
  exact J.ret (Zr [.p] (RetEv.one rfl (REv.tmp rfl lr)) rfl ⟨_, rfl, rfl, rfl⟩)
theorem esize1_ret (a b c : Nat) (x y z : Int) : DC Tryz.prog 40 [ibox a x, ibox c z, ibox b y] [.c (.pointer (some ⟨a, 0, none⟩)), .c (.pointer (some ⟨b, 0, none⟩)), .c (.pointer (some ⟨c, 0, none⟩))] .returning fun r u' o => r = .ret (.tup []) ∧ u' = .returning ∧ o = [ibox a x, ibox c z, ibox b y] := by
  refine DC.of_JD Tryz.func40 rfl Tryz.ntmps40 rfl fun w0 A0 => ?_
  refine JD.seq (JD.region_recover rfl rfl (.inl ⟨rfl, rfl, rfl⟩) rfl (JL.callRF [.p] gofn41 rfl Lent.nil (fun _ => (.cons (.tmp rfl) (.cons (.tmp rfl) .nil))) (told_nil _ _) (.inl rfl) fun x4 o4 h4 => ?_))
  obtain ⟨rfl, rfl⟩ := h4
  refine JL.nil ?_
  refine thenD.nn ?_
  refine JD.of_J rfl ?_
  refine J.cond (.tmp rfl) (fun c1 => absurd c1 (by simp)) (fun c1 => ?_)
  refine J.skip ?_
  exact ⟨_, selP [.p, .p, .p] _, _, RetEv.none rfl , rfl, sel_perm [.p, .p, .p] _, ⟨rfl, rfl, rfl⟩⟩
theorem esize1_pan (a b c : Nat) (x y z e : Int) : DC Tryz.prog 40 [ibox a x, ibox c z, ibox b y] [.c (.pointer (some ⟨a, 0, none⟩)), .c (.pointer (some ⟨b, 0, none⟩)), .c (.pointer (some ⟨c, 0, none⟩))] (.panicking [{ v := errV e, recovered := false }]) fun r u' o => r = .ret (.tup []) ∧ u' = .panicking [{ v := errV e, recovered := true }] ∧ o = [ibox a e, ibox c 0, ibox b 0] := by
  refine DC.of_JD Tryz.func40 rfl Tryz.ntmps40 rfl fun w0 A0 => ?_
  refine JD.seq (JD.region_recover rfl rfl (.inr ⟨[], rfl, rfl⟩) rfl (JL.callRF [.p] gofn41 rfl Lent.nil (fun _ => (.cons (.tmp rfl) (.cons (.tmp rfl) .nil))) (told_hit _ _ _) (.inl rfl) fun x4 o4 h4 => ?_))
  obtain ⟨rfl, rfl⟩ := h4
  refine JL.nil ?_
  refine thenD.nn ?_
  refine JD.of_J rfl ?_
  refine J.cond (.tmp rfl) (fun c1 => ?_) (fun c1 => absurd c1 (by simp))
  refine J.region_lit (JL.store_box 2 ty3 (.tmp rfl) rfl .const rfl rfl rfl rfl rfl (JL.store_box 1 ty3 (.tmp rfl) rfl .const rfl rfl rfl rfl rfl (JL.nil ?_)))
  exact ⟨_, selP [.p, .p, .p] _, _, RetEv.none rfl , rfl, sel_perm [.p, .p, .p] _, ⟨rfl, rfl, rfl⟩⟩
def esizeAV (v : EX) : AV := .tup [.c (.int .i64 (if v.err = 0 then v.cnt else 0)), .c (.int .i64 (if v.err = 0 then v.depth else 0)), .c (.int .i64 v.err)]
theorem esizeAV_ok {v : EX} {n d : Int} (h : v.err = 0) (hn : n = v.cnt) (hd : d = v.depth) : esizeAV v = .tup [.c (.int .i64 n), .c (.int .i64 d), .c (.int .i64 0)] := by
  subst hn hd; simp [esizeAV, h]
theorem esizeAV_no {v : EX} {e : Int} (h : ¬ v.err = 0) (he : e = v.err) : esizeAV v = .tup [.c (.int .i64 0), .c (.int .i64 0), .c (.int .i64 e)] := by
  subst he; simp [esizeAV, h]
theorem esize_ok {fr : Bool} {v : EX} {ys : List AV} (hv : Xc fr v ys) (hw : v.wf) : Fn Tryz.prog 30 [.agg ys] (esizeAV v) := by
  subst hv
  refine AC.of_JD Tryz.func30 rfl Tryz.ntmps30 rfl fun w0 A0 => ?_
  refine Zs (JL.box_agg (.tmp rfl) rfl fun b1 => JL.alloc z3 rfl rfl fun b2 => JL.alloc z3 rfl rfl fun b3 => JL.alloc z38 rfl rfl fun b4 => Zn (Zs (Zq rfl (QW.mkFunc .nil (.cons (.tmp rfl) (.cons (.tmp rfl) (.cons (.tmp rfl) .nil)))) (JL.defer rfl (.tmp rfl) (Zn ?_)))))
  refine Zs (JL.alloc z83 rfl rfl fun b5 => Zn (Zs (Zq rfl (QW.load_box 4 ty34 (.tmp rfl) rfl (take_at xl rfl) xl) ?_)))
  refine JL.callPF [.p] gofn42 rfl Lent.nil (fun _ => (.cons (.tmp rfl) (.cons (.tmp rfl) (.cons .const .nil)))) (ewalk_n _ Xc.self hw (by omega) (by omega) (Nat.le_refl _)) (.inl rfl) (fun k8 x8 o8 h8 => ?_) (fun k8 => ?_)
  rotate_left
  · skip
    refine thenQ.p ?_
    exact ⟨_, _, [], [_, _, _], selP [.p, .p, .p] _, _, rfl, rfl, gofn40, sel_perm [.p, .p, .p] _, DC.mono (esize1_pan _ _ _ _ _ _ _) fun r u' o ⟨h1, h2, h3⟩ => by subst h1 h2 h3; exact ⟨⟨_, rfl⟩, rfl, _, [], _, RetEv.three rfl (REv.cell1 2 ty3 rfl rfl rfl lr) (REv.cell1 1 ty3 rfl rfl rfl lr) (REv.cell1 0 ty38 rfl rfl rfl lr), List.Perm.refl _, (congrArg Res.ret (esizeAV_no k8 rfl)).symm, rfl⟩⟩
  obtain ⟨rfl, rfl⟩ := h8
  refine Zn (J.seq (J.region_outK 5 1 (fun os_ ow_ x_ o_ => match os_ with | [] => (x_ = .c undef ∧ o_ = ow_.set 3 (ibox b2 (v.chk 1 0).2)) | _ => False) mixed (by kernel_rfl) (by kernel_rfl) (by kernel_rfl) rfl ?_))
  refine OutK.quiet [] rfl rfl rfl (fun qs_ qv_ ql_ => (.q rfl (QW.field_ptr fo83_0 (.tmp rfl) rfl))) ?_
  refine OutK.quiet [9] rfl rfl rfl (fun qs_ qv_ ql_ => by
      rcases qs_ with _ | ⟨⟨y0, p0⟩, qs_⟩
      · skip
        exact (.q rfl (QW.load_box1 0 ty3 (.tmp rfl) rfl rfl))
      rcases qs_ with _ | ⟨⟨y1, p1⟩, qs_⟩
      · skip
        obtain ⟨hr0, _⟩ := qv_
        obtain ⟨rfl, rfl⟩ := hr0
        exact (.q rfl (QW.load_box1 0 ty3 (.tmp rfl) rfl rfl))
      exact absurd ql_ (by simp)) ?_
  refine OutK.quiet [] rfl rfl rfl (fun qs_ qv_ ql_ => (.q rfl (QW.field_ptr fo83_1 (.tmp rfl) rfl))) ?_
  refine OutK.quiet [11] rfl rfl rfl (fun qs_ qv_ ql_ => by
      rcases qs_ with _ | ⟨⟨y0, p0⟩, qs_⟩
      · skip
        exact (.q rfl (QW.load_box1 0 ty3 (.tmp rfl) rfl rfl))
      rcases qs_ with _ | ⟨⟨y1, p1⟩, qs_⟩
      · skip
        obtain ⟨hr0, _⟩ := qv_
        obtain ⟨rfl, rfl⟩ := hr0
        exact (.q rfl (QW.load_box1 0 ty3 (.tmp rfl) rfl rfl))
      exact absurd ql_ (by simp)) ?_
  refine OutK.store [10] rfl (fun qs_ ow x o h ql_ => by
      obtain rfl : qs_ = [] := List.length_eq_zero_iff.1 (by simpa using ql_)
      exact h.1) rfl rfl rfl (fun qs_ qv_ ql_ => by
      obtain rfl : qs_ = [] := List.length_eq_zero_iff.1 ql_
      exact LStep.toR rfl (LStep.store_box 3 ty3 (.tmp rfl) rfl (.tmp rfl) rfl rfl rfl rfl rfl) ⟨rfl, rfl⟩) ?_
  refine .nil fun qs_ qv_ ql_ => ?_
  obtain ⟨⟨y0, p0⟩, qs_, rfl⟩ : ∃ p t, qs_ = p :: t := by (cases qs_ with | nil => simp at ql_ | cons p t => exact ⟨p, t, rfl⟩)
  obtain rfl : qs_ = [] := List.length_eq_zero_iff.1 (by simpa using ql_)
  obtain ⟨hr0, _⟩ := qv_
  obtain ⟨rfl, rfl⟩ := hr0
  refine JL.conv (by (try simp only [nl, stepsO, valO, nthO, curO, mrg, AV.cellsOf, splice_zero, splice_succ, Nat.reduceAdd]); rfl) ?_
  refine JL.store_box 2 ty3 (.tmp rfl) rfl (.tmp rfl) rfl rfl rfl rfl rfl (JL.store_box 1 ty38 (.tmp rfl) rfl .const rfl rfl rfl rfl rfl (Zn (J.ret ?_)))
  exact ⟨_, _, [], [_, _, _], selP [.k, .p, .p, .p] _, _, rfl, rfl, gofn40, sel_perm [.k, .p, .p, .p] _, DC.mono (esize1_ret _ _ _ _ _ _) fun r u' o ⟨h1, h2, h3⟩ => by subst h1 h2 h3; exact ⟨⟨_, rfl⟩, rfl, _, [], _, RetEv.three rfl (REv.cell1 2 ty3 rfl rfl rfl lr) (REv.cell1 1 ty3 rfl rfl rfl lr) (REv.cell1 0 ty38 rfl rfl rfl lr), List.Perm.refl _, (congrArg Res.ret (esizeAV_ok k8 rfl (by have := EX.chk_depth v 1 0 k8; omega))).symm, rfl⟩⟩
theorem echeck_ok {fr : Bool} {v : EX} {ys : List AV} (hv : Xc fr v ys) (hw : v.wf) : Fn Tryz.prog 23 [.agg ys] (.c (.int .i64 v.err)) := by
  subst hv
  refine AC.of_J Tryz.func23 rfl Tryz.ntmps23 rfl fun w0 A0 => ?_
  refine Zs (JL.box_agg (.tmp rfl) rfl fun b1 => Zq rfl (QW.assign .const) (Zn (Zs (Zq rfl (QW.load_box 0 ty34 (.tmp rfl) rfl (take_at xl rfl) xl) (Zq rfl (QW.call gofn30 (.cons (.tmp rfl) .nil) (esize_ok (Xc.self) (by assumption))) ?_)))))
  refine Zq rfl (QW.move (.tmp rfl)) (Zq rfl (QW.extract (.tmp rfl) rfl) (Zq rfl (QW.extract (.tmp rfl) rfl) (Zq rfl (QW.extract (.tmp rfl) rfl) (Zq rfl (QW.assign (.tmp rfl)) (Zq rfl (QW.assign (.tmp rfl)) (Zq rfl (QW.assign (.tmp rfl)) (Zn (Zs (Zq rfl (QW.move (.tmp rfl)) ?_)))))))))
  exact Zq rfl (QW.assign (.tmp rfl)) (Zn (J.ret (Zr [.k] (RetEv.one rfl (REv.tmp rfl lr)) rfl ⟨rfl, rfl⟩)))
theorem ercheck_ok {fr : Bool} {v : EX} {ys : List AV} (hv : Xc fr v ys) (hw : v.wf) : Fn Tryz.prog 19 [.agg ys] (.c (.int .i64 v.err)) := by
  subst hv
  refine AC.of_J Tryz.func19 rfl Tryz.ntmps19 rfl fun w0 A0 => ?_
  refine Zs (JL.box_agg (.tmp rfl) rfl fun b1 => Zq rfl (QW.assign .const) (Zn (Zs (Zq rfl (QW.load_box 0 ty25 (.tmp rfl) rfl (take_at xl rfl) xl) (JL.callRF [] gofn28 rfl Lent.nil (fun _ => (.cons (.tmp rfl) (.cons .const (.cons .const .nil)))) (erwalk_ok Xc.self hw (by omega) (by omega)) (.inl rfl) fun x8 o8 h8 => ?_)))))
  obtain ⟨rfl, p8, d8, rfl, hp8⟩ := h8
  refine Zq rfl (QW.move (.tmp rfl)) (Zq rfl (QW.extract (.tmp rfl) rfl) (Zq rfl (QW.extract (.tmp rfl) rfl) (Zq rfl (QW.extract (.tmp rfl) rfl) (Zq rfl (QW.assign (.tmp rfl)) (Zq rfl (QW.assign (.tmp rfl)) (Zq rfl (QW.assign (.tmp rfl)) (Zn (Zs (Zq rfl (QW.move (.tmp rfl)) ?_)))))))))
  exact Zq rfl (QW.assign (.tmp rfl)) (Zn (J.ret (Zr [.k] (RetEv.one rfl (REv.tmp rfl lr)) rfl ⟨rfl, rfl⟩)))
end Go.Proofs.YtjhonjdhanlbkaaGreat.J

/- Walks: are two expressions one; copies; octets that are copied, spoilt, compared. -/
namespace Go.Proofs.YtjhonjdhanlbkaaGreat.J
open Go Go.RowKit
set_option maxRecDepth 10000
set_option maxHeartbeats 4000000
theorem of14_n  : ∀ (n : Nat) {v : EX} {ys : List AV} {fr : Bool}, Xc fr v ys → v.wf → v.sz ≤ n → AC Tryz.prog 9 [] [.agg ys] (RetR (CopyE v)) := by
  intro n
  induction n with
  | zero => intro v ys fr hv hw h; exact absurd h (by have := EX.sz_pos v; omega)
  | succ n ih =>
    intro v ys fr hv hw hn
    obtain ⟨o, b, t, is⟩ := v
    subst hv
    obtain ⟨-, -, -, hi80, hwi⟩ := hw.inv
    have h1 : is.length ≤ 9223372036854775806 := by unfold reach at hi80; omega
    refine AC.of_J Tryz.func9 rfl Tryz.ntmps9 rfl fun w0 A0 => ?_
    refine Zs (JL.box_agg (.tmp rfl) rfl fun b1 => JL.alloc z34 rfl rfl fun b2 => Zn (Zs (Zq rfl (QW.field_ptr fo25_0 (.tmp rfl) rfl) (Zq rfl (QW.load_box1 1 ty3 (.tmp rfl) rfl rfl) (Zq rfl (QW.field_ptr fo25_1 (.tmp rfl) rfl) (Zq rfl (QW.load_box1 1 ty22 (.tmp rfl) rfl rfl) (Zq rfl (QW.field_ptr fo25_2 (.tmp rfl) rfl) ?_)))))))
    refine Zq rfl (QW.load_box1 1 ty9 (.tmp rfl) rfl rfl) (Zq rfl (QW.build (idx := [0, 1, 2]) pl34 z34 rfl (.cons (.tmp rfl) (.cons (.tmp rfl) (.cons (.tmp rfl) .nil))) rfl rfl rfl rfl) (JL.alloc z34 rfl rfl fun b3 => JL.store_boxF 0 ty34 (.tmp rfl) rfl (.tmp rfl) rfl rfl rfl rfl (Zn (J.seq (Zs (Zq rfl (QW.assign .const) (Zn (J.block ?_))))))))
    refine J.reown (Reown.nilArrE eEX _) (J.reown (Reown.nilGrpE _) (J.loopK (ι := Nat × Value × List (List AV) × List Value × Own) [1, 2, 3] (fun ⟨j, v, cs, us, g⟩ => [(4, .c (.int .i64 (j : Int)))]) (fun ⟨j, v, cs, us, g⟩ oo => List.set (List.set (List.set oo 0 (.box b3 ((EX.mk o b t is).raw v))) 3 (.arr v eEX cs)) 4 (g)) (fun ⟨j, v, cs, us, g⟩ => j ≤ is.length ∧ EKids (is.take j) cs us g) (fun ⟨j, v, cs, us, g⟩ => is.length - j) ⟨0, .slice none 0 0, [], [], .grp []⟩ (⟨Nat.zero_le _, .nil⟩) (Wk.re (.cons rfl lr (.cons rfl lr (.cons rfl lr (.cons rfl lr .nil)))) (Reown.refl _) (fun _ h => by first | exact h | simp [h])) ?_))
    intro ⟨j, v, cs, us, g⟩ ⟨hj, hK⟩
    refine J.conv (by (try simp only [nl, stepsO, valO, nthO, curO, mrg, AV.cellsOf, splice_zero, splice_succ, Nat.reduceAdd]); rfl) ?_
    refine J.seq (Zs (Zq rfl (QW.move (.tmp rfl)) (Zq rfl (QW.field_ptr fo25_3 (.tmp rfl) rfl) (Zq rfl (QW.load_box1 2 ty23 (.tmp rfl) rfl rfl) (Zq rfl (QW.len_slE sl23 (.tmp rfl) (EX.css_length _ _)) (Zq rfl (QW.lss (.tmp rfl) (.tmp rfl)) (Zn ?_)))))))
    refine J.cond (.tmp rfl) (fun c1 => ?_) (fun c1 => ?_)
    · skip
      have hlt : j < is.length := by simpa [EX.css_length] using c1
      refine Zk (J.seq (J.block (J.regionX mixed (Zf 0 [] rfl (fun _ => QW.field_ptr fo34_3 (.tmp rfl) rfl) (Zo 1 0 [19] rfl (fun _ ho_ => QW.load_box1 0 ty32 (.tmp rfl) ho_ rfl) (Zf 2 [] rfl (fun _ => QW.field_ptr fo25_3 (.tmp rfl) rfl) (Zo 3 2 [21] rfl (fun _ ho_ => QW.load_box1 2 ty23 (.tmp rfl) ho_ rfl) (Zf 4 [] rfl (fun _ => QW.move (.tmp rfl)) (Zf 5 [22, 23] rfl (fun _ => QW.index_sl sl23 ty25 rfl (.tmp rfl) (.tmp rfl) rfl (by exact EX.css_getE _ hlt)) ?_)))))))))
      refine Zf 6 [24] rfl (fun _ => QW.load_ref ty25 (.tmp rfl) (take_at0 xl rfl) xl) (JX.one 7 [true, true, true, true, true, false, false] rfl (by kernel_rfl) (by kernel_rfl) rfl rfl (by kernel_rfl) rfl fun bs7_ pe_ ex_ => ?_)
      refine JL.conv (by (try simp only [vlF, bxF, tkM, lvM, Flt.val, Flt.bx, nx, nl, stepsO, valO, nthO, curO, mrg, AV.cellsOf, splice_zero, splice_succ, Nat.reduceAdd]); rfl) ?_
      refine JL.callRF [] gofn9 rfl Lent.nil (fun _ => (.cons (.tmp rfl) .nil)) (ih Xc.self (hwi _ (List.getElem_mem _)) (EX.sz_get hn hlt)) (.inl rfl) fun x26 o26 h26 => ?_
      obtain ⟨iv26, oi26, rfl, rfl, hV26⟩ := h26
      refine JL.nil ?_
      refine thenQ.n ⟨[_], _, rfl, rfl, rfl, rfl, rfl, Reown.mrgN 5 rfl rfl, ⟨rfl, rfl⟩, ⟨rfl, ⟨trivial, trivial⟩⟩, ?_⟩
      refine JX.conv (S' := [7, 6, 5, 4, 3, 2]) rfl (by (try simp only [lvM]); rfl) (by (try simp only [vlF, bxF, tkM, lvM, Flt.val, Flt.bx, nx, nl, stepsO, valO, nthO, curO, mrg, AV.cellsOf, splice_zero, splice_succ, Nat.reduceAdd]); rfl) ?_
      refine Zf 8 [26] rfl (fun _ => QW.buildSlice (idx := [0]) (xs := [is[j].raw iv26]) sl32 el34 z34 rfl (.cons (.tmp rfl) .nil) rfl rfl rfl rfl rfl rfl rfl rfl rfl) (JX.one 9 [true, true, true] rfl (by kernel_rfl) (by kernel_rfl) rfl rfl (by kernel_rfl) rfl fun bs9_ pe_ ex_ => ?_)
      refine JL.conv (by (try simp only [vlF, bxF, tkM, lvM, Flt.val, Flt.bx, nx, nl, stepsO, valO, nthO, curO, mrg, AV.cellsOf, splice_zero, splice_succ, Nat.reduceAdd]); rfl) ?_
      refine JL.append 3 sl32 el34 rfl (.tmp rfl) rfl (srcA_sl sl32 (.tmp rfl)) (by have := hK.h2; rw [List.length_take] at this; simp; unfold reach at *; omega) rfl fun v28 => ?_
      refine JL.nil ?_
      refine thenQ.n ⟨[_], _, rfl, rfl, rfl, rfl, rfl, Reown.tkN 6 rfl, ⟨rfl, rfl⟩, trivial, ?_⟩
      refine JX.conv (S' := [9, 8, 1, 0, 7, 6, 5, 4, 3, 2]) rfl (by (try simp only [lvM]); rfl) (by (try simp only [vlF, bxF, tkM, lvM, Flt.val, Flt.bx, nx, nl, stepsO, valO, nthO, curO, mrg, AV.cellsOf, splice_zero, splice_succ, Nat.reduceAdd]); rfl) ?_
      refine Zf 10 [] rfl (fun _ => QW.field_ptr fo34_3 (.tmp rfl) rfl) (JX.one 11 [true] rfl (by kernel_rfl) (by kernel_rfl) rfl rfl (by kernel_rfl) rfl fun bs11_ pe_ ex_ => ?_)
      refine JL.conv (by (try simp only [vlF, bxF, tkM, lvM, Flt.val, Flt.bx, nx, nl, stepsO, valO, nthO, curO, mrg, AV.cellsOf, splice_zero, splice_succ, Nat.reduceAdd]); rfl) ?_
      refine JL.isSlice 3 rfl fun hs2 => JL.store_box 0 ty32 (.tmp rfl) rfl (.tmp rfl) (by assumption) rfl rfl rfl rfl ?_
      refine JL.nil ?_
      refine thenQ.n ⟨[], _, rfl, rfl, rfl, rfl, rfl, Reown.tkN 6 rfl, trivial, trivial, ?_⟩
      refine JX.conv (S' := [11, 10, 9, 8, 1, 0, 7, 6, 5, 4, 3, 2]) rfl (by (try simp only [lvM]); rfl) (by (try simp only [vlF, bxF, tkM, lvM, Flt.val, Flt.bx, nx, nl, stepsO, valO, nthO, curO, mrg, AV.cellsOf, splice_zero, splice_succ, Nat.reduceAdd]); rfl) ?_
      refine JX.fin (by kernel_rfl) (by kernel_rfl) fun bs_ => ?_
      refine QX.conv (by (try simp only [vlF, bxF, tkM, lvM, Flt.val, Flt.bx, nx, nl, stepsO, valO, nthO, curO, mrg, AV.cellsOf, splice_zero, splice_succ, Nat.reduceAdd]); rfl) ?_
      refine blkQ.n (thenQ.n (J.region_lit (Zq rfl (QW.move (.tmp rfl)) (Zq rfl (QW.add (.tmp rfl) .const (w64 (by omega))) (Zq rfl (QW.assign (.tmp rfl)) (Zn ?_))))))
      exact ⟨⟨j + 1, _, _, _, _⟩, ⟨hlt, by rw [List.take_succ_eq_append_getElem hlt]; exact hK.snoc hV26⟩, by show is.length - (j + 1) < is.length - j; omega, Wk.re (.cons rfl lr (.cons rfl lr (.cons rfl lr (.cons rfl lr .nil)))) ((Reown.cons (Reown.cons (Reown.cons (Reown.cons (Reown.grp2 _ _ _)))))) (fun _ h => by first | exact h | simp [h])⟩
    have hge : is.length ≤ j := by simpa [EX.css_length] using c1
    refine J.exit (thenQ.x (thenQ.x (blkQ.hit (thenQ.n (J.seq (J.isSlice 3 rfl fun hs1 => J.reown (Reown.cons (Reown.cons (Reown.cons (Reown.grp2 _ _ _)))) (J.region_lit (Zq rfl (QW.load_box 0 ty34 (.tmp rfl) rfl rfl rfl) ?_))))))))
    refine JL.store_boxF 1 ty34 (.tmp rfl) rfl (.tmp rfl) rfl rfl rfl rfl (Zn (J.ret ?_))
    obtain rfl : j = is.length := by omega
    rw [List.take_length] at hK
    exact Zr [.k, .k, .k, .p] (RetEv.one rfl (REv.cell 1 ty34 rfl rfl rfl rfl lr)) rfl ⟨_, rfl, _, _, rfl, rfl, hs1, hK.tr hi80⟩
theorem of14_own {v : EX} {ys : List AV} {fr : Bool} (hv : Xc fr v ys) (hw : v.wf) : AC Tryz.prog 9 [] [.agg ys] (RetR (CopyE v)) := of14_n _ hv hw (Nat.le_refl _)
theorem of14_ok {v : EX} {ys : List AV} {fr : Bool} (hv : Xc fr v ys) (hw : v.wf) : Fn Tryz.prog 9 [.agg ys] (.agg (v.cs true)) := Fn.ofCopyE (of14_own hv hw)
end Go.Proofs.YtjhonjdhanlbkaaGreat.J

/- Walks: an expression over a scope, with fuel. -/
namespace Go.Proofs.YtjhonjdhanlbkaaGreat.J
open Go Go.RowKit
set_option maxRecDepth 10000
set_option maxHeartbeats 4000000
def zV : List AV := [.c (.int .i64 0), .c (.int .u64 0), .c (str []), .c (.slice none 0 0), .c (.slice none 0 0)]
def ScT.cs (s : ScT) : List AV := s.st.cs false ++ s.ev.cs false ++ s.it.cs false
def runAV (r : V × Int × Int) : AV := .tup [.agg (r.1.cs true), .c (.int .i64 r.2.1), .c (.int .i64 r.2.2)]
theorem runT_er {e : EX} {s : ScT} {f c : Int} (h : e.ev s f = .error c) : runT e s f = (.nil, 0, c) := by unfold runT; rw [h]
theorem runT_ok {e : EX} {s : ScT} {f f' : Int} {v : V} (h : e.ev s f = .ok (v, f')) : runT e s f = (v, f', 0) := by unfold runT; rw [h]
theorem trip_at {a b c : List AV} {j : Nat} (ha : a.length = 5) (hb : b.length = 5) (hc : c.length = 5) (h : j < 3) : ((a ++ b ++ c).drop (j * 5)).take 5 = (if j = 0 then a else if j = 1 then b else c) := by
  match j, h with
  | 0, _ => rw [Nat.zero_mul, List.drop_zero, List.append_assoc, List.take_left' ha]; rfl
  | 1, _ => rw [List.append_assoc, List.drop_left' (by omega), List.take_left' hb]; rfl
  | 2, _ => rw [List.drop_left' (by simp; omega), List.take_of_length_le (by omega)]; rfl
def ScT.at (s : ScT) (j : Nat) : V := if j = 0 then s.st else if j = 1 then s.ev else s.it
theorem ScT.trip {s : ScT} {j : Nat} (h : j < 3) : (s.cs.drop (j * 5)).take 5 = (s.at j).cs false := by
  unfold ScT.cs ScT.at
  rw [trip_at (V.cs_length _ _) (V.cs_length _ _) (V.cs_length _ _) h]
  repeat' split
  all_goals rfl
theorem run1_ret (a b c : Nat) (zs : List AV) (y z : Int) : DC Tryz.prog 31 [ibox c z, ibox b y, .box a zs] [.c (.pointer (some ⟨a, 0, none⟩)), .c (.pointer (some ⟨b, 0, none⟩)), .c (.pointer (some ⟨c, 0, none⟩))] .returning fun r u' o => r = .ret (.tup []) ∧ u' = .returning ∧ o = [ibox c z, ibox b y, .box a zs] := by
  refine DC.of_JD Tryz.func31 rfl Tryz.ntmps31 rfl fun w0 A0 => ?_
  refine JD.seq (JD.region_recover rfl rfl (.inl ⟨rfl, rfl, rfl⟩) rfl (Zq rfl (QW.assert_nil ⟨_, Tryz.underlying38, by intro ms h; cases h⟩ zeroErrno (.tmp rfl)) ?_))
  refine Zq rfl (QW.move (.tmp rfl)) (Zq rfl (QW.extract (.tmp rfl) rfl) (Zq rfl (QW.extract (.tmp rfl) rfl) (Zq rfl (QW.assign (.tmp rfl)) (Zq rfl (QW.assign (.tmp rfl)) (JL.nil ?_)))))
  refine thenD.nn ?_
  refine JD.of_J rfl (Zs (Zq rfl (QW.move (.tmp rfl)) (Zn ?_)))
  refine J.cond (.tmp rfl) (fun c1 => absurd c1 (by simp)) (fun c1 => ?_)
  refine J.skip ?_
  exact ⟨_, selP [.p, .p, .p] _, _, RetEv.none rfl , rfl, sel_perm [.p, .p, .p] _, ⟨rfl, rfl, rfl⟩⟩
theorem run1_pan (a b c : Nat) (zs : List AV) (hz : zs.length = 5) (y z e : Int) : DC Tryz.prog 31 [ibox c z, ibox b y, .box a zs] [.c (.pointer (some ⟨a, 0, none⟩)), .c (.pointer (some ⟨b, 0, none⟩)), .c (.pointer (some ⟨c, 0, none⟩))] (.panicking [{ v := errV e, recovered := false }]) fun r u' o => r = .ret (.tup []) ∧ u' = .panicking [{ v := errV e, recovered := true }] ∧ o = [ibox c e, ibox b 0, .box a zV] := by
  refine DC.of_JD Tryz.func31 rfl Tryz.ntmps31 rfl fun w0 A0 => ?_
  refine JD.seq (JD.region_recover rfl rfl (.inr ⟨[], rfl, rfl⟩) rfl (Zq rfl (QW.assert_hit ⟨_, Tryz.underlying38, by intro ms h; cases h⟩ (.tmp rfl)) ?_))
  refine Zq rfl (QW.move (.tmp rfl)) (Zq rfl (QW.extract (.tmp rfl) rfl) (Zq rfl (QW.extract (.tmp rfl) rfl) (Zq rfl (QW.assign (.tmp rfl)) (Zq rfl (QW.assign (.tmp rfl)) (JL.nil ?_)))))
  refine thenD.nn ?_
  refine JD.of_J rfl (Zs (Zq rfl (QW.move (.tmp rfl)) (Zn ?_)))
  refine J.cond (.tmp rfl) (fun c1 => ?_) (fun c1 => absurd c1 (by simp))
  refine J.region_lit (Zq rfl (QW.build (idx := []) pl29 z29 rfl .nil rfl rfl rfl rfl) (Zq rfl (QW.move (.tmp rfl)) (JL.store_box 2 ty29 (.tmp rfl) rfl (.tmp rfl) rfl rfl (by rw [hz]; rfl) (splice_all (by rw [hz]; rfl)) rfl ?_)))
  refine JL.store_box 1 ty3 (.tmp rfl) rfl .const rfl rfl rfl rfl rfl (JL.store_box 0 ty38 (.tmp rfl) rfl (.tmp rfl) rfl rfl rfl rfl rfl (JL.nil ?_))
  exact ⟨_, selP [.p, .p, .p] _, _, RetEv.none rfl , rfl, sel_perm [.p, .p, .p] _, ⟨rfl, rfl, rfl⟩⟩
theorem run_ok {fr : Bool} {e : EX} {ys : List AV} (he : Xc fr e ys) (hw : e.wf) (hf : e.Fine) {s : ScT} (hs : s.good) {f : Int} (h0 : okF f) : Fn Tryz.prog 24 [.agg ys, .agg s.cs, .c (.int .i64 f)] (runAV (runT e s f)) := by
  subst he
  obtain ⟨⟨ka, ua, ta, va, ia⟩, ⟨kb, ub, tb, vb, ib⟩, ⟨kc, uc, tc, vc, ic⟩⟩ := s
  have hs0 := hs
  refine AC.of_JD Tryz.func24 rfl Tryz.ntmps24 rfl fun w0 A0 => ?_
  refine Zs (JL.box_agg (.tmp rfl) rfl fun b3 => JL.box_agg (.tmp rfl) rfl fun b4 => JL.alloc z29 rfl rfl fun b6 => JL.alloc z3 rfl rfl fun b7 => JL.alloc z38 rfl rfl fun b8 => Zn (Zs (Zq rfl (QW.mkFunc .nil (.cons (.tmp rfl) (.cons (.tmp rfl) (.cons (.tmp rfl) .nil)))) (JL.defer rfl (.tmp rfl) ?_))))
  refine Zn (Zs (Zq rfl (QW.load_box 3 ty36 (.tmp rfl) rfl rfl rfl) (Zq rfl (QW.move (.tmp rfl)) (Zq rfl (QW.build (idx := [0, 1]) pl69 z69 rfl (.cons (.tmp rfl) (.cons (.tmp rfl) .nil)) rfl rfl rfl rfl) (JL.box_agg (.tmp rfl) rfl fun b14 => Zq rfl (QW.assign (.tmp rfl)) (Zn (Zs (Zq rfl (QW.move (.tmp rfl)) ?_))))))))
  refine Zq rfl (QW.load_box 5 ty34 (.tmp rfl) rfl (take_at xl rfl) xl) ?_
  refine JL.callPF [.p] gofn33 rfl Lent.nil (fun _ => (.cons (.tmp rfl) (.cons (.tmp rfl) .nil))) (meval_n _ e ⟨⟨ka, ua, ta, va, ia⟩, ⟨kb, ub, tb, vb, ib⟩, ⟨kc, uc, tc, vc, ic⟩⟩ f b14 fr hw hf hs h0 (Nat.le_refl _)) (.inl rfl) (fun k17 x17 o17 h17 => ?_) (fun k17 => ?_)
  rotate_left
  · skip
    refine thenQ.p ?_
    exact ⟨_, _, [], [_, _, _], selP [.p, .p, .p] _, _, rfl, rfl, gofn31, sel_perm [.p, .p, .p] _, DC.mono (run1_pan _ _ _ _ rfl _ _ _) fun r u' o ⟨h1, h2, h3⟩ => by subst h1 h2 h3; exact ⟨⟨_, rfl⟩, rfl, _, [], _, (RetEv.three rfl (REv.cell 2 ty29 rfl rfl rfl rfl (.aggL (.cons lr (.cons lr (.cons lr (.cons (.nil true false _) (.cons (.nil true false _) .nil))))))) (REv.cell1 1 ty3 rfl rfl rfl lr) (REv.cell1 0 ty38 rfl rfl rfl lr)), List.Perm.refl _, (congrArg (fun r => Res.ret (runAV r)) (runT_er (er_of k17)).symm), rfl⟩⟩
  obtain ⟨v17, f17, hv17, rfl, rfl⟩ := h17
  refine Zq rfl (QW.call gofn32 (.cons (.tmp rfl) .nil) (clone_rd Vc.self (ev_okF hw hf hs h0 hv17).1.wf)) (JL.store_boxF 3 ty29 (.tmp rfl) rfl (.tmp rfl) rfl vl rfl rfl (Zn (J.seq (J.regionX mixed (Zo 0 3 [] rfl (fun _ ho_ => QW.load_box 3 ty29 (.tmp rfl) ho_ (take_at vl rfl) vl) (Zf 1 [] rfl (fun _ => QW.move (.tmp rfl)) (Zf 2 [20] rfl (fun _ => QW.nil_ptr (.tmp rfl)) (Zf 3 [21] rfl (fun _ => QW.field_ptr fo69_1 (.tmp rfl) rfl) (Zo 4 0 [22] rfl (fun _ ho_ => QW.load_box1 0 ty3 (.tmp rfl) ho_ rfl) ?_)))))))))
  refine JX.one 5 [false, false, false, false, true] rfl (by kernel_rfl) (by kernel_rfl) rfl rfl (by kernel_rfl) rfl fun bs5_ pe_ ex_ => ?_
  refine JL.conv (by (try simp only [vlF, bxF, tkM, lvM, Flt.val, Flt.bx, nx, nl, stepsO, valO, nthO, curO, mrg, AV.cellsOf, splice_zero, splice_succ, Nat.reduceAdd]); rfl) ?_
  refine JL.store_boxF 3 ty29 (.tmp rfl) rfl (.tmp rfl) rfl vl vl rfl (JL.nil ?_)
  refine thenQ.n ⟨[], _, rfl, rfl, rfl, rfl, rfl, Reown.tkN 6 rfl, trivial, ⟨rfl, ⟨trivial, ⟨trivial, ⟨trivial, trivial⟩⟩⟩⟩, ?_⟩
  refine JX.conv (S' := [5, 0]) rfl (by (try simp only [lvM]); rfl) (by (try simp only [vlF, bxF, tkM, lvM, Flt.val, Flt.bx, nx, nl, stepsO, valO, nthO, curO, mrg, AV.cellsOf, splice_zero, splice_succ, Nat.reduceAdd]); rfl) ?_
  refine JX.one 6 [true, true, true, true] rfl (by kernel_rfl) (by kernel_rfl) rfl rfl (by kernel_rfl) rfl fun bs6_ pe_ ex_ => ?_
  refine JL.conv (by (try simp only [vlF, bxF, tkM, lvM, Flt.val, Flt.bx, nx, nl, stepsO, valO, nthO, curO, mrg, AV.cellsOf, splice_zero, splice_succ, Nat.reduceAdd]); rfl) ?_
  refine JL.store_box 2 ty3 (.tmp rfl) rfl (.tmp rfl) rfl rfl rfl rfl rfl (JL.nil ?_)
  refine thenQ.n ⟨[], _, rfl, rfl, rfl, rfl, rfl, Reown.tkN 6 rfl, trivial, trivial, ?_⟩
  refine JX.conv (S' := [6, 4, 3, 2, 1, 5, 0]) rfl (by (try simp only [lvM]); rfl) (by (try simp only [vlF, bxF, tkM, lvM, Flt.val, Flt.bx, nx, nl, stepsO, valO, nthO, curO, mrg, AV.cellsOf, splice_zero, splice_succ, Nat.reduceAdd]); rfl) ?_
  refine JX.one 7 [] rfl (by kernel_rfl) (by kernel_rfl) rfl rfl (by kernel_rfl) rfl fun bs7_ pe_ ex_ => ?_
  refine JL.conv (by (try simp only [vlF, bxF, tkM, lvM, Flt.val, Flt.bx, nx, nl, stepsO, valO, nthO, curO, mrg, AV.cellsOf, splice_zero, splice_succ, Nat.reduceAdd]); rfl) ?_
  refine JL.store_box 1 ty38 (.tmp rfl) rfl .const rfl rfl rfl rfl rfl (JL.nil ?_)
  refine thenQ.n ⟨[], _, rfl, rfl, rfl, rfl, rfl, Reown.tkN 6 rfl, trivial, trivial, ?_⟩
  refine JX.conv (S' := [7, 6, 4, 3, 2, 1, 5, 0]) rfl (by (try simp only [lvM]); rfl) (by (try simp only [vlF, bxF, tkM, lvM, Flt.val, Flt.bx, nx, nl, stepsO, valO, nthO, curO, mrg, AV.cellsOf, splice_zero, splice_succ, Nat.reduceAdd]); rfl) ?_
  refine JX.fin (by kernel_rfl) (by kernel_rfl) fun bs_ => ?_
  refine QX.conv (by (try simp only [vlF, bxF, tkM, lvM, Flt.val, Flt.bx, nx, nl, stepsO, valO, nthO, curO, mrg, AV.cellsOf, splice_zero, splice_succ, Nat.reduceAdd]); rfl) ?_
  refine thenQ.n (J.ret ?_)
  exact ⟨_, _, [], [_, _, _], selP [.k, .p, .p, .p] _, _, rfl, rfl, gofn31, sel_perm [.k, .p, .p, .p] _, DC.mono (run1_ret _ _ _ _ _ _) fun r u' o ⟨h1, h2, h3⟩ => by subst h1 h2 h3; exact ⟨⟨_, rfl⟩, rfl, _, [], _, (RetEv.three rfl (REv.cell 2 ty29 rfl rfl (take_at vl rfl) vl lr) (REv.cell1 1 ty3 rfl rfl rfl lr) (REv.cell1 0 ty38 rfl rfl rfl lr)), List.Perm.refl _, (congrArg (fun r => Res.ret (runAV r)) (runT_ok hv17).symm), rfl⟩⟩
theorem ScT.good_of {s : ScT} (hw : s.st.wf ∧ s.ev.wf ∧ s.it.wf) (h : s.st.err = 0 ∧ s.ev.err = 0 ∧ s.it.err = 0) : s.good := ⟨⟨hw.1, h.1⟩, ⟨hw.2.1, h.2.1⟩, ⟨hw.2.2, h.2.2⟩⟩
theorem evalT_e {e : EX} {s : ScT} {f : Int} (h : ¬ e.err = 0) : evalT e s f = (.nil, 0, e.err) := if_pos h
theorem evalT_s {e : EX} {s : ScT} {f : Int} {j : Nat} (h : e.err = 0) (hj : j < 3) (h1 : ∀ i, i < j → (s.at i).err = 0) (h2 : ¬ (s.at j).err = 0) : evalT e s f = (.nil, 0, (s.at j).err) := by
  unfold evalT
  rw [if_neg (by simp [h])]
  match j, hj with
  | 0, _ => exact if_pos h2
  | 1, _ => rw [if_neg (by simpa [ScT.at] using h1 0 (by omega))]; exact if_pos h2
  | 2, _ => rw [if_neg (by simpa [ScT.at] using h1 0 (by omega)), if_neg (by simpa [ScT.at] using h1 1 (by omega))]; exact if_pos h2
theorem at_all {s : ScT} (h : ∀ i, i < 3 → (s.at i).err = 0) : s.st.err = 0 ∧ s.ev.err = 0 ∧ s.it.err = 0 := ⟨h 0 (by omega), h 1 (by omega), h 2 (by omega)⟩
theorem evalT_f {e : EX} {s : ScT} {f : Int} (h : e.err = 0) (h1 : s.st.err = 0 ∧ s.ev.err = 0 ∧ s.it.err = 0) (h2 : f < 0 ∨ 4096 < f) : evalT e s f = (.nil, 0, 4) := by
  unfold evalT
  rw [if_neg (by simp [h]), if_neg (by simp [h1.1]), if_neg (by simp [h1.2.1]), if_neg (by simp [h1.2.2]), if_pos h2]
theorem evalT_r {e : EX} {s : ScT} {f : Int} (h : e.err = 0) (h1 : s.st.err = 0 ∧ s.ev.err = 0 ∧ s.it.err = 0) (h2 : ¬ (f < 0 ∨ 4096 < f)) : evalT e s f = runT e s f := by
  unfold evalT
  rw [if_neg (by simp [h]), if_neg (by simp [h1.1]), if_neg (by simp [h1.2.1]), if_neg (by simp [h1.2.2]), if_neg h2]
theorem ScT.at_wf {s : ScT} (hw : s.st.wf ∧ s.ev.wf ∧ s.it.wf) (j : Nat) : (s.at j).wf := by
  unfold ScT.at; repeat' split
  · exact hw.1
  · exact hw.2.1
  · exact hw.2.2
theorem fill_sc (s : ScT) : fillA (fun i => some (i * 5, 5)) (zV ++ zV ++ zV) (([0, 1, 2] : List Nat).zip ([AV.agg (s.st.cs false), AV.agg (s.ev.cs false), AV.agg (s.it.cs false)].map AV.cellsOf)) = some s.cs := by
  obtain ⟨⟨ka, ua, ta, va, ia⟩, ⟨kb, ub, tb, vb, ib⟩, ⟨kc, uc, tc, vc, ic⟩⟩ := s
  rfl
theorem ScT.cs_len (s : ScT) : s.cs.length = 15 := by simp [ScT.cs, V.cs_length]
theorem eval_ok {fr : Bool} {e : EX} {ys : List AV} (he : Xc fr e ys) (hew : e.wf) {s : ScT} (hw : s.st.wf ∧ s.ev.wf ∧ s.it.wf) {f : Int} (h64 : -9223372036854775808 ≤ f ∧ f ≤ 9223372036854775807) : Fn Tryz.prog 11 [.agg ys, .agg s.cs, .c (.int .i64 f)] (runAV (evalT e s f)) := by
  subst he
  refine AC.of_J Tryz.func11 rfl Tryz.ntmps11 rfl fun w0 A0 => ?_
  refine Zs (JL.box_agg (.tmp rfl) rfl fun b3 => JL.box_agg (.tmp rfl) rfl fun b4 => JL.alloc z29 rfl rfl fun b6 => Zq rfl (QW.assign .const) (Zq rfl (QW.assign .const) (Zn (J.seq (Zs (Zq rfl (QW.load_box 2 ty34 (.tmp rfl) rfl (take_at xl rfl) xl) ?_))))))
  refine Zq rfl (QW.call gofn23 (.cons (.tmp rfl) .nil) (echeck_ok (Xc.self) (by assumption))) ?_
  refine Zq rfl (QW.assign (.tmp rfl)) (Zn (Zs (Zq rfl (QW.move (.tmp rfl)) (Zq rfl (QW.neq (.tmp rfl) .const) (Zn ?_)))))
  refine J.cond (.tmp rfl) (fun c1 => ?_) (fun c1 => ?_)
  · skip
    have hbe : ¬ e.err = 0 := by simpa using c1
    exact Zs (Zq rfl (QW.build (idx := []) pl29 z29 rfl .nil rfl rfl rfl rfl) (Zq rfl (QW.move (.tmp rfl)) (JL.store_boxF 0 ty29 (.tmp rfl) rfl (.tmp rfl) rfl rfl rfl rfl (Zq rfl (QW.assign .const) (Zq rfl (QW.assign (.tmp rfl)) (Zn (J.ret (thenQ.r (Zr [.k, .k, .k] (RetEv.three rfl (REv.cell 0 ty29 rfl rfl rfl rfl (.aggL (.cons lr (.cons lr (.cons lr (.cons (.nil true false _) (.cons (.nil true false _) .nil))))))) (REv.tmp rfl lr) (REv.tmp rfl lr)) rfl ⟨congrArg (fun r => Res.ret (runAV r)) (evalT_e hbe).symm, rfl⟩)))))))))
  have he : e.err = 0 := by simpa using c1
  refine Zk (J.seq (Zs (Zq rfl (QW.field_ptr fo36_0 (.tmp rfl) rfl) (Zq rfl (QW.load_box 1 ty29 (.tmp rfl) rfl (ScT.trip (j := 0) (by omega)) vl) (Zq rfl (QW.field_ptr fo36_1 (.tmp rfl) rfl) (Zq rfl (QW.load_box 1 ty29 (.tmp rfl) rfl (ScT.trip (j := 1) (by omega)) vl) (Zq rfl (QW.field_ptr fo36_2 (.tmp rfl) rfl) (Zq rfl (QW.load_box 1 ty29 (.tmp rfl) rfl (ScT.trip (j := 2) (by omega)) vl) (Zq rfl (QW.buildA (idx := [0, 1, 2]) (sz := 5) (by kernel_rfl) z58 rfl (.cons (.tmp rfl) (.cons (.tmp rfl) (.cons (.tmp rfl) .nil))) rfl rfl rfl (fill_sc s)) ?_)))))))))
  refine Zq rfl (QW.move .const) (Zn (J.block (J.loopK (ι := Nat) [2, 3, 4, 6, 25] (fun j => [(26, .c (.int .i64 (j : Int))), (7, .c (.int .i64 0)), (8, .c (.int .i64 0))]) (fun _ oo => oo) (fun j => j ≤ 3 ∧ ∀ i, i < j → (s.at i).err = 0) (fun j => 3 - j) 0 (⟨by omega, fun i hi => by omega⟩) (Wk.re (.cons rfl lr (.cons rfl lr (.cons rfl lr (.cons rfl lr (.cons rfl lr (.cons rfl lr (.cons rfl lr (.cons rfl lr .nil)))))))) (Reown.refl _) (fun _ h => by first | exact h | simp [h])) ?_)))
  intro j ⟨hj, hall⟩
  refine J.conv (by (try simp only [nl, stepsO, valO, nthO, curO, mrg, AV.cellsOf, splice_zero, splice_succ, Nat.reduceAdd]); rfl) ?_
  refine Zs (Zq rfl (QW.lss (.tmp rfl) .const) (Zn (J.seq ?_)))
  refine J.cond (.tmp rfl) (fun c2 => ?_) (fun c2 => ?_)
  · skip
    have hj3 : j < 3 := by (simp at c2; omega)
    refine Zk (J.seq (J.block (Zs (Zq rfl (QW.indexA (zs := (s.at j).cs false) (ln := 3) (et := 29) (by kernel_rfl) ty29 (.tmp rfl) (.tmp rfl) rfl (by omega) (ScT.trip hj3) vl) ?_))))
    refine JL.alloc z29 rfl rfl fun b11 => JL.store_boxF 0 ty29 (.tmp rfl) rfl (.tmp rfl) rfl vl rfl rfl (Zn (Zs (Zq rfl (QW.load_box 0 ty29 (.tmp rfl) rfl (take_at vl rfl) vl) (Zq rfl (QW.call gofn18 (.cons (.tmp rfl) .nil) (check_ok Vc.self (ScT.at_wf hw j))) (Zq rfl (QW.assign (.tmp rfl)) (Zn (Zs (Zq rfl (QW.move (.tmp rfl)) ?_))))))))
    refine Zq rfl (QW.neq (.tmp rfl) .const) (Zn ?_)
    refine J.cond (.tmp rfl) (fun c3 => ?_) (fun c3 => ?_)
    · skip
      have hbad : ¬ (s.at j).err = 0 := by simpa using c3
      refine Zs (Zq rfl (QW.build (idx := []) pl29 z29 rfl .nil rfl rfl rfl rfl) (Zq rfl (QW.move (.tmp rfl)) (JL.store_boxF 1 ty29 (.tmp rfl) rfl (.tmp rfl) rfl rfl rfl rfl (Zq rfl (QW.assign .const) (Zq rfl (QW.assign (.tmp rfl)) (Zn (J.ret (blkQ.r (thenQ.r ?_)))))))))
      exact thenQ.r (blkQ.r (thenQ.r (Zr [.k, .k, .k, .k] (RetEv.three rfl (REv.cell 1 ty29 rfl rfl rfl rfl (.aggL (.cons lr (.cons lr (.cons lr (.cons (.nil true false _) (.cons (.nil true false _) .nil))))))) (REv.tmp rfl lr) (REv.tmp rfl lr)) rfl ⟨congrArg (fun r => Res.ret (runAV r)) (evalT_s he hj3 hall hbad).symm, rfl⟩)))
    have hgo : (s.at j).err = 0 := by simpa using c3
    refine J.skip (blkQ.n (thenQ.n (J.region_lit (Zq rfl (QW.add (.tmp rfl) .const (w64 (by omega))) (Zq rfl (QW.move (.tmp rfl)) (Zn ?_))))))
    exact ⟨j + 1, ⟨hj3, fun i hi => by rcases Nat.lt_succ_iff_lt_or_eq.1 hi with h | rfl; exact hall i h; exact hgo⟩, by omega, Wk.re (.cons rfl lr (.cons rfl lr (.cons rfl lr (.cons rfl lr (.cons rfl lr (.cons rfl lr (.cons rfl lr (.cons rfl lr .nil)))))))) (Reown.dropN 1 _ rfl) (fun _ h => by first | exact h | simp [h])⟩
  obtain rfl : j = 3 := by (simp at c2; omega)
  have h3 := at_all hall
  refine J.exit (thenQ.x (thenQ.x (blkQ.hit (thenQ.n (J.seq (Zs (Zq rfl (QW.move (.tmp rfl)) (Zq rfl (QW.lss (.tmp rfl) .const) (Zq rfl (QW.move (.tmp rfl)) ?_)))))))))
  refine Zg rfl (fun hg => (QW.move (.tmp rfl))) (Zg rfl (fun hg => (QW.gtr (.when rfl hg) .const)) (Zq rfl (QW.pick_or (.tmp rfl) (.tmp rfl)) (Zn ?_)))
  refine J.cond (.tmp rfl) (fun c3 => ?_) (fun c3 => ?_)
  · skip
    have hr : f < 0 ∨ 4096 < f := by simpa using c3
    exact Zs (Zq rfl (QW.build (idx := []) pl29 z29 rfl .nil rfl rfl rfl rfl) (JL.store_boxF 0 ty29 (.tmp rfl) rfl (.tmp rfl) rfl rfl rfl rfl (Zq rfl (QW.assign .const) (Zq rfl (QW.assign .const) (Zn (J.ret (thenQ.r (Zr [.k, .k, .k] (RetEv.three rfl (REv.cell 0 ty29 rfl rfl rfl rfl (.aggL (.cons lr (.cons lr (.cons lr (.cons (.nil true false _) (.cons (.nil true false _) .nil))))))) (REv.tmp rfl lr) (REv.tmp rfl lr)) rfl ⟨congrArg (fun r => Res.ret (runAV r)) (evalT_f he h3 hr).symm, rfl⟩))))))))
  have hr : ¬ (f < 0 ∨ 4096 < f) := by (simp at c3; omega)
  refine Zk (Zs (Zq rfl (QW.load_box 2 ty34 (.tmp rfl) rfl (take_at xl rfl) xl) (Zq rfl (QW.load_box 1 ty36 (.tmp rfl) rfl (take_at (ScT.cs_len _) rfl) (ScT.cs_len _)) (Zq rfl (QW.move (.tmp rfl)) (Zq rfl (QW.call gofn24 (.cons (.tmp rfl) (.cons (.tmp rfl) (.cons (.tmp rfl) .nil))) (run_ok Xc.self hew (EX.fine_of he) (ScT.good_of hw h3) ⟨by omega, by omega⟩)) (Zq rfl (QW.extract (.tmp rfl) rfl) (Zq rfl (QW.extract (.tmp rfl) rfl) (Zq rfl (QW.extract (.tmp rfl) rfl) (JL.store_boxF 0 ty29 (.tmp rfl) rfl (.tmp rfl) rfl vl rfl rfl ?_)))))))))
  exact Zq rfl (QW.assign (.tmp rfl)) (Zq rfl (QW.assign (.tmp rfl)) (Zn (J.ret (Zr [.k, .k, .k] (RetEv.three rfl (REv.cell 0 ty29 rfl rfl (take_at vl rfl) vl lr) (REv.tmp rfl lr) (REv.tmp rfl lr)) rfl ⟨congrArg (fun r => Res.ret (runAV r)) (evalT_r he h3 hr).symm, rfl⟩))))
end Go.Proofs.YtjhonjdhanlbkaaGreat.J

/- What scopes among the inputs read as. -/
namespace Go.Proofs.YtjhonjdhanlbkaaGreat.J
open Go Go.RowKit
set_option maxRecDepth 10000
set_option maxHeartbeats 4000000
theorem ScT.rd {H : Type} {enc : TypeId × Value → H} {w : World} : ∀ (fuel : Nat) (cs : List Value) (x : DataW H × List MemPlace), trd enc Tryz.prog w fuel 31 cs = some x → Fits Tryz.prog 31 x.1 → ∃ v : ScT, (v.st.wf ∧ v.ev.wf ∧ v.it.wf) ∧ RdC w cs (v.cs) := by
  intro fuel
  intro cs x h hf
  obtain ⟨xs, n, rfl, rfl, hl, hlen, hg⟩ := DataW.trod_struct Tryz.underlying31 h
  obtain ⟨y0, y1, y2, rfl⟩ : ∃ y0 y1 y2, xs = [y0, y1, y2] := by
    match xs, hlen with
    | [y0, y1, y2], _ => exact ⟨y0, y1, y2, rfl⟩
  have h0 := hg 0 _ rfl
  obtain ⟨a0, b0, r0⟩ := V.rd n _ _ h0 (Fits.field Tryz.underlying31 hf (i := 0) rfl rfl)
  have h1 := hg 1 _ rfl
  obtain ⟨a1, b1, r1⟩ := V.rd n _ _ h1 (Fits.field Tryz.underlying31 hf (i := 1) rfl rfl)
  have h2 := hg 2 _ rfl
  obtain ⟨a2, b2, r2⟩ := V.rd n _ _ h2 (Fits.field Tryz.underlying31 hf (i := 2) rfl rfl)
  refine ⟨⟨a0, a1, a2⟩, ⟨b0, b1, b2⟩, ?_⟩
  have := (RdC.join r0 (by rw [V.cs_length]; kernel_rfl) (by kernel_rfl) ((RdC.join r1 (by rw [V.cs_length]; kernel_rfl) (by kernel_rfl) (RdC.last r2 (hl.trans (by kernel_rfl))))))
  simpa [ScT.cs] using this
end Go.Proofs.YtjhonjdhanlbkaaGreat.J

/- Walks: the page's machine: its box, fail, Truth, made, truth. -/
namespace Go.Proofs.YtjhonjdhanlbkaaGreat.J
open Go Go.RowKit
set_option maxRecDepth 10000
set_option maxHeartbeats 4000000
def qb (b : Nat) (s : ScT) (f e : Int) : Own := .box b (s.st.cs false ++ (s.ev.cs false ++ (s.it.cs false ++ [.c (.int .i64 f), .c (.int .i64 e)])))
theorem qb_at {s : ScT} {f e : Int} (k : Nat) (h : k ≤ 2 := by decide) : ((s.st.cs false ++ (s.ev.cs false ++ (s.it.cs false ++ [AV.c (.int .i64 f), AV.c (.int .i64 e)]))).drop (5 * k)).take 5 = (match k with | 0 => s.st | 1 => s.ev | _ => s.it).cs false := by
  obtain ⟨⟨k1, b1, t1, ks1, is1⟩, ⟨k2, b2, t2, ks2, is2⟩, ⟨k3, b3, t3, ks3, is3⟩⟩ := s
  match k, h with
  | 0, _ => rfl
  | 1, _ => rfl
  | 2, _ => rfl
theorem qb_fuel {s : ScT} {f e : Int} : (s.st.cs false ++ (s.ev.cs false ++ (s.it.cs false ++ [AV.c (.int .i64 f), AV.c (.int .i64 e)])))[15]? = some (.c (.int .i64 f)) := by
  obtain ⟨⟨k1, b1, t1, ks1, is1⟩, ⟨k2, b2, t2, ks2, is2⟩, ⟨k3, b3, t3, ks3, is3⟩⟩ := s; rfl
theorem qb_err {s : ScT} {f e : Int} : (s.st.cs false ++ (s.ev.cs false ++ (s.it.cs false ++ [AV.c (.int .i64 f), AV.c (.int .i64 e)])))[16]? = some (.c (.int .i64 e)) := by
  obtain ⟨⟨k1, b1, t1, ks1, is1⟩, ⟨k2, b2, t2, ks2, is2⟩, ⟨k3, b3, t3, ks3, is3⟩⟩ := s; rfl
theorem qb_len {s : ScT} {f e : Int} : (s.st.cs false ++ (s.ev.cs false ++ (s.it.cs false ++ [AV.c (.int .i64 f), AV.c (.int .i64 e)]))).length = 17 := by
  simp [V.cs_length]
theorem qb_setf {s : ScT} {f e g : Int} : splice (s.st.cs false ++ (s.ev.cs false ++ (s.it.cs false ++ [AV.c (.int .i64 f), AV.c (.int .i64 e)]))) 15 [.c (.int .i64 g)] = (s.st.cs false ++ (s.ev.cs false ++ (s.it.cs false ++ [AV.c (.int .i64 g), AV.c (.int .i64 e)]))) := by
  obtain ⟨⟨k1, b1, t1, ks1, is1⟩, ⟨k2, b2, t2, ks2, is2⟩, ⟨k3, b3, t3, ks3, is3⟩⟩ := s; rfl
theorem qb_sete {s : ScT} {f e g : Int} : splice (s.st.cs false ++ (s.ev.cs false ++ (s.it.cs false ++ [AV.c (.int .i64 f), AV.c (.int .i64 e)]))) 16 [.c (.int .i64 g)] = (s.st.cs false ++ (s.ev.cs false ++ (s.it.cs false ++ [AV.c (.int .i64 f), AV.c (.int .i64 g)]))) := by
  obtain ⟨⟨k1, b1, t1, ks1, is1⟩, ⟨k2, b2, t2, ks2, is2⟩, ⟨k3, b3, t3, ks3, is3⟩⟩ := s; rfl
theorem qb_setit {s : ScT} {f e : Int} {x : V} : splice (s.st.cs false ++ (s.ev.cs false ++ (s.it.cs false ++ [AV.c (.int .i64 f), AV.c (.int .i64 e)]))) 10 (x.cs false) = s.st.cs false ++ (s.ev.cs false ++ (x.cs false ++ [AV.c (.int .i64 f), AV.c (.int .i64 e)])) := by
  obtain ⟨⟨k1, b1, t1, ks1, is1⟩, ⟨k2, b2, t2, ks2, is2⟩, ⟨k3, b3, t3, ks3, is3⟩⟩ := s
  obtain ⟨k4, b4, t4, ks4, is4⟩ := x; rfl
def Rok {α : Type} (r : Except Int α) (x : α) (c : Int) : Prop := (c = 0 ∧ r = .ok x) ∨ (¬ c = 0 ∧ r = .error c)
theorem Rok.y {α : Type} {r : Except Int α} {x : α} (h : r = .ok x) : Rok r x 0 := .inl ⟨rfl, h⟩
theorem Rok.er {α : Type} {r : Except Int α} {x : α} {c : Int} (h : Rok r x c) (hc : ¬ c = 0) : r = .error c := h.elim (fun h => absurd h.1 hc) (fun h => h.2)
theorem Rok.ok {α : Type} {r : Except Int α} {x : α} {c : Int} (h : Rok r x c) (hc : c = 0) : r = .ok x := h.elim (fun h => h.2) (fun h => absurd hc h.1)
def failE (e : Int) (bad : Bool) (c : Int) : Int := if e = 0 ∧ bad = true then c else e
theorem failE_n {e c : Int} : failE e false c = e := if_neg (fun h => by cases h.2)
theorem failE_k {e c : Int} {b : Bool} (h : ¬ e = 0) : failE e b c = e := if_neg (fun h1 => h h1.1)
theorem failE_p {c : Int} {p : Prop} [Decidable p] (h : p) : failE 0 (decide p) c = c := by rw [decide_eq_true h]; rfl
theorem failE_q {e c : Int} {p : Prop} [Decidable p] (h : ¬ p) : failE e (decide p) c = e := by rw [decide_eq_false h]; exact failE_n
theorem made_fail {e x : Int} : failE e ((e == 0) && (x != 0)) 84 = failE e (decide (x ≠ 0)) 84 := by
  unfold failE
  by_cases h : e = 0 <;> simp [h]
theorem truth_end {r : ER V} {k : Int} {u : Nat} {t : Str} {ks : List Str} {is : List V} {f c : Int} (h : Rok r (V.mk k u t ks is, f) c) :
    Rok (truE r) (!(failE c (k != 1) 81 != 0) && ((u : Int) == 1), f) (failE c (k != 1) 81) ∧ (¬ failE c (k != 1) 81 = 0 → (!(failE c (k != 1) 81 != 0) && ((u : Int) == 1)) = false) := by
  refine ⟨?_, fun hn => by simp [hn]⟩
  by_cases hc : c = 0
  · subst hc
    have hr := h.ok rfl
    by_cases hk : k = 1
    · subst hk
      refine .inl ⟨rfl, ?_⟩
      rw [truE_yes hr rfl]
      have : ((u : Int) == 1) = (u == 1) := by rw [Bool.eq_iff_iff]; simp; omega
      simp [failE, this, V.bits]
    · have h81 : failE 0 (k != 1) 81 = 81 := by rw [bne_iff_ne.2 hk]; rfl
      rw [h81]
      exact .inr ⟨by decide, truE_no hr hk⟩
  · rw [failE_k hc]
    exact .inr ⟨hc, truE_er (h.er hc)⟩
def RvO (r : Except Int V) (b : Nat) (s : ScT) (f : Int) : Res → List Own → Prop := RetR fun x o => ∃ v c, Rok r v c ∧ x = .agg (v.cs false) ∧ o = [qb b s f c]
def RvR (r : ER V) (b : Nat) (s : ScT) : Res → List Own → Prop := RetR fun x o => ∃ v f' c, Rok r (v, f') c ∧ x = .agg (v.cs false) ∧ o = [qb b s f' c]
def RtR (r : ER Bool) (b : Nat) (s : ScT) : Res → List Own → Prop := RetR fun x o => ∃ t f' c, Rok r (t, f') c ∧ (¬ c = 0 → t = false) ∧ x = .c (.bool t) ∧ o = [qb b s f' c]
theorem RvO.mk {r : Except Int V} {b : Nat} {s : ScT} {f : Int} {v : V} {c : Int} (h : Rok r v c) : RvO r b s f (.ret (.agg (v.cs false))) [qb b s f c] := ⟨_, rfl, v, c, h, rfl, rfl⟩
theorem RvR.mk {r : ER V} {b : Nat} {s : ScT} {v : V} {f' c : Int} (h : Rok r (v, f') c) : RvR r b s (.ret (.agg (v.cs false))) [qb b s f' c] := ⟨_, rfl, v, f', c, h, rfl, rfl⟩
theorem RtR.mk {r : ER Bool} {b : Nat} {s : ScT} {t : Bool} {f' c : Int} (h : Rok r (t, f') c) (ht : ¬ c = 0 → t = false) : RtR r b s (.ret (.c (.bool t))) [qb b s f' c] := ⟨_, rfl, t, f', c, h, ht, rfl, rfl⟩
def RvIH (n : Nat) : Prop := ∀ (e : EX) (s : ScT) (f : Int) (b : Nat) (fr : Bool), e.wf → e.Fine → s.good → okF f → e.sz ≤ n → AC Tryz.prog 34 [qb b s f 0] [pb b, .agg (e.cs fr)] (RvR (e.ev s f) b s)
theorem fail15_ok (b : Nat) (s : ScT) (f e : Int) (bad : Bool) (c : Int) : AC Tryz.prog 51 [qb b s f e] [pb b, .c (.bool bad), .c (.int .i64 c)] (RetR fun x o => x = .c (.bool (failE e bad c != 0)) ∧ o = [qb b s f (failE e bad c)]) := by
  refine AC.of_J Tryz.func51 rfl Tryz.ntmps51 rfl fun w0 A0 => ?_
  refine Zs (Zq rfl (QW.assign .const) (Zn (J.seq (Zs (Zq rfl (QW.move (.tmp rfl)) (Zq rfl (QW.nil_ptr (.tmp rfl)) (Zq rfl (QW.field_ptr fo73_2 (.tmp rfl) rfl) (Zq rfl (QW.load_box1 0 ty3 (.tmp rfl) rfl qb_err) (Zq rfl (QW.eql (.tmp rfl) .const) ?_)))))))))
  refine Zq rfl (QW.move (.tmp rfl)) (Zg rfl (fun hg => (QW.move (.tmp rfl))) (Zq rfl (QW.pick_and (.tmp rfl) (.tmp rfl)) (Zn ?_)))
  refine J.cond (.tmp rfl) (fun c1 => ?_) (fun c1 => ?_)
  · skip
    have hf : failE e bad c = c := by (simp at c1; exact if_pos c1)
    refine J.region_lit (Zq rfl (QW.move (.tmp rfl)) (Zq rfl (QW.move (.tmp rfl)) (Zq rfl (QW.nil_ptr (.tmp rfl)) (Zq rfl (QW.field_ptr fo73_2 (.tmp rfl) rfl) (JL.store_box 0 ty3 (.tmp rfl) rfl (.tmp rfl) rfl rfl (by rw [qb_len]; rfl) qb_sete rfl ?_)))))
    exact Zn (Zs (Zq rfl (QW.move (.tmp rfl)) (Zq rfl (QW.nil_ptr (.tmp rfl)) (Zq rfl (QW.field_ptr fo73_2 (.tmp rfl) rfl) (Zq rfl (QW.load_box1 0 ty3 (.tmp rfl) rfl qb_err) (Zq rfl (QW.neq (.tmp rfl) .const) (Zq rfl (QW.assign (.tmp rfl)) (Zn (J.ret (Zr [.p] (RetEv.one rfl (REv.tmp rfl lr)) rfl ⟨_, rfl, by rw [hf], by rw [hf]; rfl⟩))))))))))
  have hf : failE e bad c = e := by (simp at c1; exact if_neg (fun h => by simp [h.1, h.2] at c1))
  exact Zk (Zs (Zq rfl (QW.move (.tmp rfl)) (Zq rfl (QW.nil_ptr (.tmp rfl)) (Zq rfl (QW.field_ptr fo73_2 (.tmp rfl) rfl) (Zq rfl (QW.load_box1 0 ty3 (.tmp rfl) rfl qb_err) (Zq rfl (QW.neq (.tmp rfl) .const) (Zq rfl (QW.assign (.tmp rfl)) (Zn (J.ret (Zr [.p] (RetEv.one rfl (REv.tmp rfl lr)) rfl ⟨_, rfl, by rw [hf], by rw [hf]; rfl⟩))))))))))
theorem rtr_ok (t : Bool) : Fn Tryz.prog 52 [.c (.bool t)] (.agg ((V.tr t).cs false)) := by
  refine AC.of_J Tryz.func52 rfl Tryz.ntmps52 rfl fun w0 A0 => ?_
  refine Zs (JL.alloc z29 rfl rfl fun b2 => Zn (J.seq (Zs (Zq rfl (QW.move (.tmp rfl)) (Zn ?_)))))
  refine J.cond (.tmp rfl) (fun c1 => ?_) (fun c1 => ?_)
  · skip
    obtain rfl : t = true := c1
    exact Zs (Zq rfl (QW.build (idx := [0, 1]) pl29 z29 rfl (.cons .const (.cons .const .nil)) rfl rfl rfl rfl) (JL.store_boxF 0 ty29 (.tmp rfl) rfl (.tmp rfl) rfl rfl rfl rfl (Zn (J.ret (thenQ.r (Zr [.k] (RetEv.one rfl (REv.cell 0 ty29 rfl rfl rfl rfl (.aggL (.cons lr (.cons lr (.cons lr (.cons (.nil false false _) (.cons (.nil false false _) .nil)))))))) rfl ⟨rfl, rfl⟩))))))
  obtain rfl : t = false := by simpa using c1
  exact Zk (Zs (Zq rfl (QW.build (idx := [0]) pl29 z29 rfl (.cons .const .nil) rfl rfl rfl rfl) (JL.store_boxF 0 ty29 (.tmp rfl) rfl (.tmp rfl) rfl rfl rfl rfl (Zn (J.ret (Zr [.k] (RetEv.one rfl (REv.cell 0 ty29 rfl rfl rfl rfl (.aggL (.cons lr (.cons lr (.cons lr (.cons (.nil false false _) (.cons (.nil false false _) .nil)))))))) rfl ⟨rfl, rfl⟩))))))
theorem made15_ok {fr : Bool} {v : V} {ys : List AV} {b : Nat} {s : ScT} {f e : Int} (hv : Vc fr v ys) (hw : e = 0 → v.wf) : AC Tryz.prog 55 [qb b s f e] [pb b, .agg ys] (RetR fun x o => x = .agg ys ∧ o = [qb b s f (failE e (decide (v.err ≠ 0)) 84)]) := by
  subst hv
  refine AC.of_J Tryz.func55 rfl Tryz.ntmps55 rfl fun w0 A0 => ?_
  refine Zs (JL.box_agg (.tmp rfl) rfl fun b3 => JL.alloc z29 rfl rfl fun b4 => Zn (Zs (Zq rfl (QW.move (.tmp rfl)) (Zq rfl (QW.move (.tmp rfl)) (Zq rfl (QW.nil_ptr (.tmp rfl)) (Zq rfl (QW.field_ptr fo73_2 (.tmp rfl) rfl) (Zq rfl (QW.load_box1 2 ty3 (.tmp rfl) rfl qb_err) ?_)))))))
  refine Zq rfl (QW.eql (.tmp rfl) .const) (Zq rfl (QW.move (.tmp rfl)) (Zg rfl (fun hg => (QW.load_box 1 ty29 (.tmp rfl) rfl (take_at vl rfl) vl)) (Zg rfl (fun hg => (QW.call gofn20 (.cons (.when rfl hg) .nil) (rcheck_ok Vc.self (hw (by simpa using hg))))) ?_)))
  refine Zg rfl (fun hg => (QW.neq (.when rfl hg) .const)) (Zq rfl (QW.pick_and (.tmp rfl) (.tmp rfl)) (JL.callRF [.k, .k, .p] gofn51 rfl Lent.nil (fun _ => (.cons (.tmp rfl) (.cons (.tmp rfl) (.cons .const .nil)))) (fail15_ok b s f e _ 84) (.inl rfl) fun x16 o16 h16 => ?_))
  obtain ⟨rfl, rfl⟩ := h16
  exact Zn (Zs (Zq rfl (QW.load_box 1 ty29 (.tmp rfl) rfl (take_at vl rfl) vl) (JL.store_boxF 0 ty29 (.tmp rfl) rfl (.tmp rfl) rfl vl rfl rfl (Zn (J.ret (Zr [.k, .k, .p] (RetEv.one rfl (REv.cell 0 ty29 rfl rfl (take_at vl rfl) vl lr)) rfl ⟨_, rfl, rfl, by rw [← made_fail]; rfl⟩))))))
theorem truth15_ok {n : Nat} (ih : RvIH n) {e : EX} {s : ScT} {f : Int} {b : Nat} {fr : Bool} {ys : List AV} (he : Xc fr e ys) (hw : e.wf) (hf : e.Fine) (hs : s.good) (h0 : okF f) (hn : e.sz ≤ n) :
    AC Tryz.prog 53 [qb b s f 0] [pb b, .agg ys] (RtR (truE (e.ev s f)) b s) := by
  subst he
  refine AC.of_J Tryz.func53 rfl Tryz.ntmps53 rfl fun w0 A0 => ?_
  refine Zs (JL.box_agg (.tmp rfl) rfl fun b3 => Zq rfl (QW.assign .const) (Zn (Zs (Zq rfl (QW.move (.tmp rfl)) (Zq rfl (QW.load_box 0 ty25 (.tmp rfl) rfl (take_at xl rfl) xl) (JL.callRF [.k, .p] gofn34 rfl Lent.nil (fun _ => (.cons (.tmp rfl) (.cons (.tmp rfl) .nil))) (ih e s f b fr hw hf hs h0 hn) (.inl rfl) fun x8 o8 h8 => ?_))))))
  obtain ⟨v8, f8, c8, hv8, rfl, rfl⟩ := h8
  obtain ⟨vk, vb, vt, vks, vis⟩ := v8
  refine JL.alloc z29 rfl rfl fun b5 => JL.store_boxF 0 ty29 (.tmp rfl) rfl (.tmp rfl) rfl rfl rfl rfl (Zn (Zs (Zq rfl (QW.move (.tmp rfl)) (Zq rfl (QW.field_ptr fo29_0 (.tmp rfl) rfl) (Zq rfl (QW.load_box1 0 ty3 (.tmp rfl) rfl rfl) (Zq rfl (QW.neq (.tmp rfl) .const) (JL.callRF [.k, .k, .p] gofn51 rfl Lent.nil (fun _ => (.cons (.tmp rfl) (.cons (.tmp rfl) (.cons .const .nil)))) (fail15_ok b s f8 c8 _ 81) (.inl rfl) fun x13 o13 h13 => ?_)))))))
  obtain ⟨rfl, rfl⟩ := h13
  exact Zq rfl (QW.not (.tmp rfl)) (Zq rfl (QW.move (.tmp rfl)) (Zg rfl (fun hg => (QW.field_ptr fo29_1 (.tmp rfl) rfl)) (Zg rfl (fun hg => (QW.load_box1 0 ty22 (.when rfl hg) rfl rfl)) (Zg rfl (fun hg => (QW.eql (.when rfl hg) .const)) (Zq rfl (QW.pick_and (.tmp rfl) (.tmp rfl)) (Zq rfl (QW.assign (.tmp rfl)) (Zn (J.ret (Zr [.k, .k, .p] (RetEv.one rfl (REv.tmp rfl lr)) rfl (RtR.mk (truth_end hv8).1 (truth_end hv8).2))))))))))
end Go.Proofs.YtjhonjdhanlbkaaGreat.J

/- Walks: the page's own answers for numbers (the package fanlightref01), first part. -/
namespace Go.Proofs.YtjhonjdhanlbkaaGreat.J
open Go Go.RowKit
set_option maxRecDepth 10000
set_option maxHeartbeats 4000000
theorem rof_ok (b : Nat) (hb : b < 2 ^ 64) : Fn Tryz.prog 135 [.c (flt b)] (.c (.int .u64 (canonN b : Int))) := by
  refine AC.of_J Tryz.func135 rfl Tryz.ntmps135 rfl fun w0 A0 => ?_
  refine Zs (Zq rfl (QW.assign .const) (Zn (Zs (Zq rfl (QW.move (.tmp rfl)) (Zq rfl (QW.ext (extBits _) (.tmp rfl)) (Zq rfl (QW.call gofn62 (.cons (.tmp rfl) .nil) (by (apply rcanon_ok <;> first | assumption | omega))) ?_))))))
  refine Zq rfl (QW.assign (.tmp rfl)) (Zn (J.ret ?_))
  exact ⟨_, [], _, RetEv.one rfl (REv.tmp rfl lr), rfl, List.Perm.refl _, rfl, rfl⟩
theorem radd_ok (a b : Nat) : Fn Tryz.prog 111 [.c (.int .u64 (a : Int)), .c (.int .u64 (b : Int))] (.c (.int .u64 (arithN .add a b : Int))) := by
  refine AC.of_J Tryz.func111 rfl Tryz.ntmps111 rfl fun w0 A0 => ?_
  refine Zs (Zq rfl (QW.assign .const) (Zn (Zs (Zq rfl (QW.move (.tmp rfl)) (Zq rfl (QW.ext (extFrom _) (.tmp rfl)) (Zq rfl (QW.move (.tmp rfl)) (Zq rfl (QW.ext (extFrom _) (.tmp rfl)) (JL.farith (by decide) (.tmp rfl) (.tmp rfl) rfl fun x9 h9 => ?_))))))))
  have hlt : x9 < 2 ^ 64 := h9.elim (fun h => (farith_some h).2) (fun h => nanAny_lt h.2)
  refine Zq rfl (QW.call gofn135 (.cons (.tmp rfl) .nil) (by (apply rof_ok <;> first | assumption | omega))) ?_
  refine Zq rfl (QW.assign (.tmp rfl)) (Zn (J.ret ?_))
  exact ⟨_, [], _, RetEv.one rfl (REv.tmp rfl lr), rfl, List.Perm.refl _, by rw [arith_canon h9], rfl⟩
theorem rsub_ok (a b : Nat) : Fn Tryz.prog 106 [.c (.int .u64 (a : Int)), .c (.int .u64 (b : Int))] (.c (.int .u64 (arithN .sub a b : Int))) := by
  refine AC.of_J Tryz.func106 rfl Tryz.ntmps106 rfl fun w0 A0 => ?_
  refine Zs (Zq rfl (QW.assign .const) (Zn (Zs (Zq rfl (QW.move (.tmp rfl)) (Zq rfl (QW.ext (extFrom _) (.tmp rfl)) (Zq rfl (QW.move (.tmp rfl)) (Zq rfl (QW.ext (extFrom _) (.tmp rfl)) (JL.farith (by decide) (.tmp rfl) (.tmp rfl) rfl fun x9 h9 => ?_))))))))
  have hlt : x9 < 2 ^ 64 := h9.elim (fun h => (farith_some h).2) (fun h => nanAny_lt h.2)
  refine Zq rfl (QW.call gofn135 (.cons (.tmp rfl) .nil) (by (apply rof_ok <;> first | assumption | omega))) ?_
  refine Zq rfl (QW.assign (.tmp rfl)) (Zn (J.ret ?_))
  exact ⟨_, [], _, RetEv.one rfl (REv.tmp rfl lr), rfl, List.Perm.refl _, by rw [arith_canon h9], rfl⟩
theorem rmul_ok (a b : Nat) : Fn Tryz.prog 112 [.c (.int .u64 (a : Int)), .c (.int .u64 (b : Int))] (.c (.int .u64 (arithN .mul a b : Int))) := by
  refine AC.of_J Tryz.func112 rfl Tryz.ntmps112 rfl fun w0 A0 => ?_
  refine Zs (Zq rfl (QW.assign .const) (Zn (Zs (Zq rfl (QW.move (.tmp rfl)) (Zq rfl (QW.ext (extFrom _) (.tmp rfl)) (Zq rfl (QW.move (.tmp rfl)) (Zq rfl (QW.ext (extFrom _) (.tmp rfl)) (JL.farith (by decide) (.tmp rfl) (.tmp rfl) rfl fun x9 h9 => ?_))))))))
  have hlt : x9 < 2 ^ 64 := h9.elim (fun h => (farith_some h).2) (fun h => nanAny_lt h.2)
  refine Zq rfl (QW.call gofn135 (.cons (.tmp rfl) .nil) (by (apply rof_ok <;> first | assumption | omega))) ?_
  refine Zq rfl (QW.assign (.tmp rfl)) (Zn (J.ret ?_))
  exact ⟨_, [], _, RetEv.one rfl (REv.tmp rfl lr), rfl, List.Perm.refl _, by rw [arith_canon h9], rfl⟩
theorem rquo_ok (a b : Nat) : Fn Tryz.prog 113 [.c (.int .u64 (a : Int)), .c (.int .u64 (b : Int))] (.c (.int .u64 (arithN .quo a b : Int))) := by
  refine AC.of_J Tryz.func113 rfl Tryz.ntmps113 rfl fun w0 A0 => ?_
  refine Zs (Zq rfl (QW.assign .const) (Zn (Zs (Zq rfl (QW.move (.tmp rfl)) (Zq rfl (QW.ext (extFrom _) (.tmp rfl)) (Zq rfl (QW.move (.tmp rfl)) (Zq rfl (QW.ext (extFrom _) (.tmp rfl)) (JL.farith (by decide) (.tmp rfl) (.tmp rfl) rfl fun x9 h9 => ?_))))))))
  have hlt : x9 < 2 ^ 64 := h9.elim (fun h => (farith_some h).2) (fun h => nanAny_lt h.2)
  refine Zq rfl (QW.call gofn135 (.cons (.tmp rfl) .nil) (by (apply rof_ok <;> first | assumption | omega))) ?_
  refine Zq rfl (QW.assign (.tmp rfl)) (Zn (J.ret ?_))
  exact ⟨_, [], _, RetEv.one rfl (REv.tmp rfl lr), rfl, List.Perm.refl _, by rw [arith_canon h9], rfl⟩
end Go.Proofs.YtjhonjdhanlbkaaGreat.J

/- Walks: the page's own answers for numbers (the package fanlightref01), second part. -/
namespace Go.Proofs.YtjhonjdhanlbkaaGreat.J
open Go Go.RowKit
set_option maxRecDepth 10000
set_option maxHeartbeats 4000000
theorem andNot_low {b d : Nat} (hb : b < 2 ^ 64) (hd : d ≤ 52) : bitsOp .andNot .u64 (b : Int) ((2 ^ d - 1 : Nat) : Int) = ((b - b % 2 ^ d : Nat) : Int) := by
  have h1 : 2 ^ d ≤ 2 ^ 52 := Nat.pow_le_pow_right (by decide) hd
  have e : bitsOp .andNot .u64 (b : Int) ((2 ^ d - 1 : Nat) : Int) = IntKind.u64.wrap ((BitVec.ofInt 64 (b : Int) &&& ~~~ BitVec.ofInt 64 ((2 ^ d - 1 : Nat) : Int)).toNat : Nat) := rfl
  rw [e]
  have hx : (BitVec.ofInt 64 (b : Int) &&& ~~~ BitVec.ofInt 64 ((2 ^ d - 1 : Nat) : Int)).toNat = b - b % 2 ^ d := by
    rw [BitVec.toNat_and, BitVec.toNat_not]
    have t1 : (BitVec.ofInt 64 (b : Int)).toNat = b := by simp [BitVec.toNat_ofInt]; omega
    have t2 : (BitVec.ofInt 64 ((2 ^ d - 1 : Nat) : Int)).toNat = 2 ^ d - 1 := by simp [BitVec.toNat_ofInt]; omega
    rw [t1, t2]
    apply Nat.eq_of_testBit_eq
    intro i
    have hq : b - b % 2 ^ d = 2 ^ d * (b / 2 ^ d) := by have := Nat.div_add_mod b (2 ^ d); omega
    rw [Nat.testBit_and, show 2 ^ 64 - 1 - (2 ^ d - 1) = 2 ^ 64 - (2 ^ d - 1 + 1) by omega, Nat.testBit_two_pow_sub_succ (by omega), Nat.testBit_two_pow_sub_one, hq, Nat.testBit_two_pow_mul, Nat.testBit_div_two_pow]
    by_cases hi : i < d
    · simp [hi, Nat.not_le.2 hi]
    · by_cases h64 : i < 64
      · simp [hi, h64, Nat.not_lt.1 hi]
      · have : b.testBit i = false := Nat.testBit_lt_two_pow (Nat.lt_of_lt_of_le hb (Nat.pow_le_pow_right (by decide) (by omega)))
        simp [hi, h64, Nat.not_lt.1 hi, this]
  rw [hx, wu64 (by omega)]
theorem and_low {b d : Nat} (hb : b < 2 ^ 64) (hd : d ≤ 52) : bitsOp .and .u64 (b : Int) ((2 ^ d - 1 : Nat) : Int) = ((b % 2 ^ d : Nat) : Int) := by
  have h1 : 2 ^ d ≤ 2 ^ 52 := Nat.pow_le_pow_right (by decide) hd
  exact and_mask2 d hb (by omega)
theorem shl_one {d : Nat} (hd : d ≤ 52) : IntKind.u64.wrap ((1 : Int) * 2 ^ (min ((d : Int)).toNat IntKind.u64.bits)) = ((2 ^ d : Nat) : Int) := by
  have h1 : 2 ^ d ≤ 2 ^ 52 := Nat.pow_le_pow_right (by decide) hd
  rw [Int.toNat_natCast, Nat.min_eq_left (show d ≤ IntKind.u64.bits by have : IntKind.u64.bits = 64 := rfl; omega), Int.one_mul, show ((2 : Int) ^ d) = ((2 ^ d : Nat) : Int) by simp]
  generalize 2 ^ d = p at *
  exact wu64 (by omega)
theorem rung_exp {b : Nat} : expN b = rung b / 2 ^ 52 := by
  have := rung_fields b
  have := frac_lt b
  omega
theorem rofInt_ok (n : Int) (h : -9223372036854775808 ≤ n ∧ n ≤ 9223372036854775807) : Fn Tryz.prog 78 [.c (.int .i64 n)] (.tup [.c (.int .u64 (ofN n : Int)), .c (.int .i64 (ofE n))]) := by
  refine AC.of_J Tryz.func78 rfl Tryz.ntmps78 rfl fun w0 A0 => ?_
  refine Zs (Zq rfl (QW.assign .const) (Zq rfl (QW.assign .const) (Zn (J.seq (Zs (Zq rfl (QW.move (.tmp rfl)) (Zq rfl (QW.lss (.tmp rfl) .const) (Zq rfl (QW.move (.tmp rfl)) (Zg rfl (fun hg => (QW.move (.tmp rfl))) ?_)))))))))
  refine Zg rfl (fun hg => (QW.gtr (.when rfl hg) .const)) (Zq rfl (QW.pick_or (.tmp rfl) (.tmp rfl)) (Zn ?_))
  refine J.cond (.tmp rfl) (fun c1 => ?_) (fun c1 => ?_)
  ·
    simp at c1
    refine Zs (Zq rfl (QW.assign .const) (Zq rfl (QW.assign .const) (Zn (J.ret (thenQ.r ?_)))))
    exact ⟨_, [], _, RetEv.two rfl (REv.tmp rfl lr) (REv.tmp rfl lr), rfl, List.Perm.refl _, by rw [show ofN n = 0 from if_pos c1, show ofE n = 4 from if_pos c1]; rfl, rfl⟩
  ·
    simp at c1
    refine Zk (Zs (Zq rfl (QW.move (.tmp rfl)) (Zq rfl (QW.conv_if us3 fl133 (.tmp rfl)) (Zq rfl (QW.ext (extBits _) (.tmp rfl)) (Zq rfl (QW.assign (.tmp rfl)) (Zq rfl (QW.assign .const) (Zn (J.ret ?_))))))))
    exact ⟨_, [], _, RetEv.two rfl (REv.tmp rfl lr) (REv.tmp rfl lr), rfl, List.Perm.refl _, by rw [show ofN n = FloatKind.f64.nearest n from if_neg (by omega), show ofE n = 0 from if_neg (by omega)], rfl⟩
theorem rfloor_ok (b : Nat) (hb : b < 2 ^ 64) : Fn Tryz.prog 79 [.c (.int .u64 (b : Int))] (.c (.int .u64 (floorC b : Int))) := by
  have hexp := exp_lt b
  have hre := @rung_exp b
  have hcl := class_two hb
  refine AC.of_J Tryz.func79 rfl Tryz.ntmps79 rfl fun w0 A0 => ?_
  refine Zs (Zq rfl (QW.assign .const) (Zn (Zs (Zq rfl (QW.move (.tmp rfl)) (Zq rfl (QW.call gofn89 (.cons (.tmp rfl) .nil) (by (apply rclass_ok <;> first | assumption | omega))) ?_)))))
  refine Zq rfl (QW.assign (.tmp rfl)) (Zn (Zs (Zq rfl (QW.move (.tmp rfl)) (Zq rfl (QW.call gofn105 (.cons (.tmp rfl) .nil) (by (apply rexp_ok <;> first | assumption | omega))) ?_))))
  refine Zq rfl (QW.sub (.tmp rfl) .const (w64 (by omega))) (Zq rfl (QW.assign (.tmp rfl)) (Zn (J.seq (J.block (Zs (Zq rfl (QW.move (.tmp rfl)) (Zq rfl (QW.eql (.tmp rfl) .const) (Zq rfl (QW.assign (.tmp rfl)) (Zn ?_)))))))))
  refine J.cond (.tmp rfl) (fun c1 => ?_) (fun c1 => ?_)
  ·
    simp at c1
    refine Zs (Zq rfl (QW.assign .const) (Zn (J.ret (blkQ.r (thenQ.r ?_)))))
    exact ⟨_, [], _, RetEv.one rfl (REv.tmp rfl lr), rfl, List.Perm.refl _, by unfold floorC; rw [if_pos (class_nan.1 (by omega))]; rfl, rfl⟩
  ·
    simp at c1
    refine Zs (Zq rfl (QW.move (.tmp rfl)) (Zq rfl (QW.lss (.tmp rfl) .const) (Zq rfl (QW.move (.tmp rfl)) (Zg rfl (fun hg => (QW.move (.tmp rfl))) (Zg rfl (fun hg => (QW.geq (.when rfl hg) .const)) (Zq rfl (QW.pick_or (.tmp rfl) (.tmp rfl)) (Zq rfl (QW.assign (.tmp rfl)) (Zn ?_))))))))
    refine J.cond (.tmp rfl) (fun c2 => ?_) (fun c2 => ?_)
    ·
      simp at c2
      refine Zs (Zq rfl (QW.move (.tmp rfl)) (Zq rfl (QW.assign (.tmp rfl)) (Zn (J.ret (blkQ.r (thenQ.r ?_))))))
      exact ⟨_, [], _, RetEv.one rfl (REv.tmp rfl lr), rfl, List.Perm.refl _, by
          congr 3
          by_cases hf : rung b < infR
          · refine ((floor_whole hb hf).2 ?_).symm ▸ rfl
            unfold isWhole
            rcases c2 with h | h
            · have : rung b = 0 := by
                rw [hcl] at h
                have := rung_fields b
                repeat' split at h
                all_goals first | (exfalso; omega) | omega
              rw [this, magn_zero, Nat.zero_mod]
            · exact magn_big (by omega)
          · rw [floor_inf hb (by omega)]
            unfold canonN
            rw [if_neg (fun h => c1 (by rw [class_nan.2 h]))], rfl⟩
    ·
      simp at c2
      refine Zs (Zq rfl (QW.move (.tmp rfl)) (Zq rfl (QW.lss (.tmp rfl) .const) (Zq rfl (QW.move (.tmp rfl)) (Zg rfl (fun hg => (QW.move (.tmp rfl))) (Zg rfl (fun hg => (QW.lss (.when rfl hg) .const)) (Zq rfl (QW.pick_and (.tmp rfl) (.tmp rfl)) (Zq rfl (QW.assign (.tmp rfl)) (Zn ?_))))))))
      refine J.cond (.tmp rfl) (fun c3 => ?_) (fun c3 => ?_)
      ·
        simp at c3
        refine Zs (Zq rfl (QW.assign .const) (Zn (J.ret (blkQ.r (thenQ.r ?_)))))
        exact ⟨_, [], _, RetEv.one rfl (REv.tmp rfl lr), rfl, List.Perm.refl _, by rw [refFloor_zero hb (by omega) (by omega)]; rfl, rfl⟩
      ·
        simp at c3
        refine Zs (Zq rfl (QW.move (.tmp rfl)) (Zq rfl (QW.lss (.tmp rfl) .const) (Zq rfl (QW.assign (.tmp rfl)) (Zn ?_))))
        refine J.cond (.tmp rfl) (fun c4 => ?_) (fun c4 => ?_)
        ·
          simp at c4
          refine Zs (Zq rfl (QW.ext (extBits _) .const) (Zq rfl (QW.assign (.tmp rfl)) (Zn (J.ret (blkQ.r (thenQ.r ?_))))))
          exact ⟨_, [], _, RetEv.one rfl (REv.tmp rfl lr), rfl, List.Perm.refl _, by
              have h0 : rung b ≠ 0 := by
                intro h
                have := rung_fields b
                have : classN b < 2 := by
                  rw [hcl]
                  repeat' split
                  all_goals first | (exfalso; omega) | omega
                omega
              rw [refFloor_minus hb (by omega) h0 (by omega)], rfl⟩
        ·
          simp at c4
          have hlo : 1023 * 2 ^ 52 ≤ rung b := by omega
          have hhi : rung b < 1075 * 2 ^ 52 := by omega
          refine J.skip (blkQ.n (thenQ.n (Zs (Zq rfl (QW.move (.tmp rfl)) ?_))))
          obtain ⟨d, hd⟩ : ∃ d : Nat, d = 1075 - rung b / 2 ^ 52 := ⟨_, rfl⟩
          have hd52 : d ≤ 52 := by omega
          refine Zq rfl (QW.sub (c := (d : Int)) .const (.tmp rfl) (w64n (by omega) (by omega))) (Zq rfl (QW.shl (c := ((2 ^ d : Nat) : Int)) .const (.tmp rfl) (by omega) (shl_one hd52)) ?_)
          have hpd := Nat.two_pow_pos d
          have hpl : 2 ^ d ≤ 2 ^ 52 := Nat.pow_le_pow_right (by decide) hd52
          refine Zq rfl (QW.sub (c := ((2 ^ d - 1 : Nat) : Int)) (.tmp rfl) .const (by rw [wu64 (by omega)]; omega)) ?_
          refine Zq rfl (QW.assign (.tmp rfl)) (Zn (J.seq (Zs (Zq rfl (QW.move (.tmp rfl)) (Zq rfl (QW.move (.tmp rfl)) (Zq rfl (QW.and (.tmp rfl) (.tmp rfl) (and_low hb hd52)) (Zq rfl (QW.eql (.tmp rfl) .const) (Zn ?_))))))))
          refine J.cond (.tmp rfl) (fun c5 => ?_) (fun c5 => ?_)
          ·
            have c5 : b % 2 ^ d = 0 := Int.ofNat_inj.1 (eq_of_beq c5)
            refine Zs (Zq rfl (QW.move (.tmp rfl)) (Zq rfl (QW.assign (.tmp rfl)) (Zn (J.ret (thenQ.r ?_)))))
            exact ⟨_, [], _, RetEv.one rfl (REv.tmp rfl lr), rfl, List.Perm.refl _, by
                have hf : rung b < infR := by unfold infR; omega
                have : isWhole b := (magn_mid hlo hhi hd).1.2 (by
                  have : rung b % 2 ^ d = b % 2 ^ d := by
                    obtain ⟨j, hj⟩ : ∃ j, 63 = d + j := ⟨63 - d, by omega⟩
                    unfold rung; rw [hj, Nat.pow_add, Nat.mod_mul_right_mod]
                  omega)
                rw [(floor_whole hb hf).2 this], rfl⟩
          ·
            have c5 : b % 2 ^ d ≠ 0 := fun h => by rw [h] at c5; cases c5
            refine Zk (J.seq (Zs (Zq rfl (QW.move (.tmp rfl)) (Zq rfl (QW.lss (.tmp rfl) .const) (Zn ?_)))))
            refine J.cond (.tmp rfl) (fun c6 => ?_) (fun c6 => ?_)
            ·
              simp at c6
              refine Zs (Zq rfl (QW.move (.tmp rfl)) (Zq rfl (QW.move (.tmp rfl)) (Zq rfl (QW.andNot (.tmp rfl) (.tmp rfl) (andNot_low hb hd52)) (Zq rfl (QW.assign (.tmp rfl)) (Zn (J.ret (thenQ.r ?_)))))))
              exact ⟨_, [], _, RetEv.one rfl (REv.tmp rfl lr), rfl, List.Perm.refl _, by rw [refFloor_plus hb hlo hhi hd (by omega)], rfl⟩
            ·
              simp at c6
              refine Zk (Zs (Zq rfl (QW.move (.tmp rfl)) (Zq rfl (QW.move (.tmp rfl)) (Zq rfl (QW.andNot (.tmp rfl) (.tmp rfl) (andNot_low hb hd52)) (Zq rfl (QW.ext (extBits _) .const) (Zq rfl (QW.call gofn106 (.cons (.tmp rfl) (.cons (.tmp rfl) .nil)) (by (apply rsub_ok <;> first | assumption | omega))) ?_))))))
              refine Zq rfl (QW.assign (.tmp rfl)) (Zn (J.ret ?_))
              exact ⟨_, [], _, RetEv.one rfl (REv.tmp rfl lr), rfl, List.Perm.refl _, by rw [refFloor_less hb hlo hhi hd (by omega) (by omega)], rfl⟩
theorem rint_ok (b : Nat) (hb : b < 2 ^ 64) : Fn Tryz.prog 81 [.c (.int .u64 (b : Int))] (.tup [.c (.int .i64 (intV b)), .c (.int .i64 (intE b))]) := by
  have hexp := exp_lt b
  have hrf := rung_fields b
  have hfr := frac_lt b
  refine AC.of_J Tryz.func81 rfl Tryz.ntmps81 rfl fun w0 A0 => ?_
  refine Zs (Zq rfl (QW.assign .const) (Zq rfl (QW.assign .const) (Zn (J.seq (Zs (Zq rfl (QW.move (.tmp rfl)) (Zq rfl (QW.call gofn89 (.cons (.tmp rfl) .nil) (by (apply rclass_ok <;> first | assumption | omega))) ?_)))))))
  refine Zq rfl (QW.geq (.tmp rfl) .const) (Zq rfl (QW.move (.tmp rfl)) (Zg rfl (fun hg => (QW.move (.tmp rfl))) (Zg rfl (fun hg => (QW.call gofn79 (.cons (.when rfl hg) .nil) (rfloor_ok b hb))) (Zg rfl (fun hg => (QW.move (.tmp rfl))) (Zg rfl (fun hg => (QW.neq (.when rfl hg) (.when rfl hg))) (Zq rfl (QW.pick_or (.tmp rfl) (.tmp rfl)) (Zn ?_)))))))
  refine J.cond (.tmp rfl) (fun c1 => ?_) (fun c1 => ?_)
  ·
    have hT : infR ≤ rung b ∨ ¬ isWhole b := by
      by_cases hf : rung b < infR
      · have := class_fin.2 hf
        have hw := floor_whole hb hf
        simp at c1
        rcases c1 with h | h
        · omega
        · exact .inr fun h' => h (by rw [hw.2 h'])
      · exact .inl (by omega)
    refine Zs (Zq rfl (QW.assign .const) (Zq rfl (QW.assign .const) (Zn (J.ret (thenQ.r ?_)))))
    exact ⟨_, [], _, RetEv.two rfl (REv.tmp rfl lr) (REv.tmp rfl lr), rfl, List.Perm.refl _, by rw [(int_t hT).1, (int_t hT).2], rfl⟩
  ·
    have hc : ¬ 4 ≤ classN b := by intro h; rw [decide_eq_true (by omega), Bool.true_or] at c1; cases c1
    have hf : rung b < infR := by rw [class_ge] at hc; omega
    have hw : isWhole b := by
      simp at c1
      exact (floor_whole hb hf).1 (by omega)
    refine Zk (J.seq (Zs (Zq rfl (QW.move (.tmp rfl)) (Zq rfl (QW.call gofn105 (.cons (.tmp rfl) .nil) (by (apply rexp_ok <;> first | assumption | omega))) ?_))))
    refine Zq rfl (QW.sub (.tmp rfl) .const (w64 (by omega))) (Zq rfl (QW.gtr (.tmp rfl) .const) (Zq rfl (QW.move (.tmp rfl)) (Zg rfl (fun hg => (QW.move (.tmp rfl))) (Zg rfl (fun hg => (QW.call gofn105 (.cons (.when rfl hg) .nil) (by (apply rexp_ok <;> first | assumption | omega)))) ?_))))
    refine Zg rfl (fun hg => (QW.sub (.when rfl hg) .const (w64 (by omega)))) (Zg rfl (fun hg => (QW.eql (.when rfl hg) .const)) (Zg rfl (fun hg => (QW.move (.when rfl hg))) (JL.gg rfl rfl rfl rfl rfl (fun hg => (QW.move (.tmp rfl))) (JL.gg rfl rfl rfl rfl rfl (fun hg => (QW.call gofn108 (.cons (.when rfl hg) .nil) (by (apply rfrac_ok <;> first | assumption | omega)))) ?_))))
    refine JL.gg rfl rfl rfl rfl rfl (fun hg => (QW.gtr (.when rfl hg) .const)) (Zg rfl (fun hg => (QW.pick_and2 hg (.when rfl hg) (.tmp rfl))) (Zq rfl (QW.pick_or (.tmp rfl) (.tmp rfl)) (Zn ?_)))
    refine J.cond (.tmp rfl) (fun c2 => ?_) (fun c2 => ?_)
    ·
      simp at c2
      have hm : mostR < rung b := by unfold mostR; omega
      refine Zs (Zq rfl (QW.assign .const) (Zq rfl (QW.assign .const) (Zn (J.ret (thenQ.r ?_)))))
      exact ⟨_, [], _, RetEv.two rfl (REv.tmp rfl lr) (REv.tmp rfl lr), rfl, List.Perm.refl _, by rw [(int_r hf hw hm).1, (int_r hf hw hm).2], rfl⟩
    ·
      simp at c2
      have hm : rung b ≤ mostR := by unfold mostR; omega
      have hK := sv_fits (s := sgn b) (small_whole hm)
      refine Zk (Zs (Zq rfl (QW.move (.tmp rfl)) (Zq rfl (QW.ext (extFrom _) (.tmp rfl)) (Zq rfl (QW.conv_fi us133 iu3 (.tmp rfl) (trunc_int hf) hK) (Zq rfl (QW.assign (.tmp rfl)) (Zq rfl (QW.assign .const) (Zn (J.ret ?_))))))))
      exact ⟨_, [], _, RetEv.two rfl (REv.tmp rfl lr) (REv.tmp rfl lr), rfl, List.Perm.refl _, by rw [(int_o hf hw hm).1, (int_o hf hw hm).2], rfl⟩
end Go.Proofs.YtjhonjdhanlbkaaGreat.J

/- More fuel changes nothing but what is left. -/
namespace Go.Proofs.YtjhonjdhanlbkaaGreat.J
open Go Go.RowKit
variable {α β : Type}
end Go.Proofs.YtjhonjdhanlbkaaGreat.J

/- An error is never 0; what is told of a reckoning. -/
namespace Go.Proofs.YtjhonjdhanlbkaaGreat.J
open Go Go.RowKit
variable {α β : Type}
def Nz (r : Except Int α) : Prop := ∀ c, r = .error c → c ≠ 0
theorem Nz.ok (v : α) : Nz (.ok v) := fun c h => by cases h
theorem Nz.er {c : Int} (h : c ≠ 0) : Nz (.error c : Except Int α) := fun c' h' => by cases h'; exact h
theorem Nz.ite {p : Prop} [Decidable p] {r q : Except Int α} (h1 : p → Nz r) (h2 : ¬ p → Nz q) : Nz (if p then r else q) := by
  by_cases h : p
  · rw [if_pos h]; exact h1 h
  · rw [if_neg h]; exact h2 h
theorem Nz.tru {r : ER V} (h : Nz r) : Nz (truE r) := by
  cases r with
  | error c => exact fun c' h' => by cases h'; exact h c rfl
  | ok p => exact Nz.ite (fun _ => .ok _) fun _ => .er (by decide)
theorem getE_nz (v : V) (s : StT) : Nz (getE v s) := by
  unfold getE; by_cases h : (v.getv [s]).2 = 0
  · rw [if_pos h]; exact .ok _
  · rw [if_neg h]; exact .er h
theorem setE_nz (v : V) (s : StT) (x : V) : Nz (setE v s x) := Nz.ite (fun _ => .ok _) fun _ => .er (by decide)
theorem madeE_nz (v : V) : Nz (madeE v) := Nz.ite (fun _ => .ok _) fun _ => .er (by decide)
theorem one_nz (o : Int) (t : Str) (a : V) : Nz (oneE o t a) := by
  unfold oneE
  repeat' with_reducible refine Nz.ite (fun _ => ?_) (fun _ => ?_)
  all_goals first | exact getE_nz _ _ | exact .ok _ | exact .er (by decide)
theorem two_nz (o : Int) (t : Str) (a b : V) : Nz (twoE o t a b) := by
  unfold twoE
  repeat' with_reducible refine Nz.ite (fun _ => ?_) (fun _ => ?_)
  all_goals first | exact getE_nz _ _ | exact setE_nz _ _ _ | exact .ok _ | exact .er (by decide)
theorem plain_nz {o : Int} {t : Str} {l : List V} (h : o = 23 ∨ l.length = 1 ∨ l.length = 2) : Nz (plainE o t l) := by
  unfold plainE
  refine Nz.ite (fun _ => madeE_nz _) fun h23 => ?_
  match l, h with
  | [a], _ => exact one_nz _ _ _
  | [a, b], _ => exact two_nz _ _ _ _
  | [], h => simp at h; exact absurd h h23
  | _ :: _ :: _ :: _, h => simp at h; exact absurd h h23
theorem map_nz {g : V → Int → ER V} (hg : ∀ x f, Nz (g x f)) : ∀ l f, Nz (mapE g l f)
  | [], f => .ok _
  | x :: r, f => by
    have h1 := hg x f
    rw [mapE]
    cases h : g x f with
    | error c => exact .er (h1 c h)
    | ok p =>
      have h2 := map_nz hg r p.2
      simp only []
      cases h3 : mapE g r p.2 with
      | error c => exact .er (h2 c h3)
      | ok q => exact .ok _
theorem fil_nz {g : V → Int → ER Bool} (hg : ∀ x f, Nz (g x f)) : ∀ l f, Nz (filE g l f)
  | [], f => .ok _
  | x :: r, f => by
    have h1 := hg x f
    rw [filE]
    cases h : g x f with
    | error c => exact .er (h1 c h)
    | ok p =>
      have h2 := fil_nz hg r p.2
      simp only []
      cases h3 : filE g r p.2 with
      | error c => exact .er (h2 c h3)
      | ok q => exact .ok _
theorem fnd_nz {g : V → Int → ER Bool} (hg : ∀ x f, Nz (g x f)) : ∀ l f, Nz (fndE g l f)
  | [], f => .er (by decide)
  | x :: r, f => by
    have h1 := hg x f
    rw [fndE]
    cases h : g x f with
    | error c => exact .er (h1 c h)
    | ok p => exact Nz.ite (fun _ => .ok _) fun _ => fnd_nz hg r p.2
theorem madeF_nz {r : ER (List V)} (h : Nz r) : Nz (madeF r) := by
  unfold madeF
  cases r with
  | error c => exact .er (h c rfl)
  | ok p =>
    have h2 := madeE_nz (.li p.1)
    simp only []
    cases h3 : madeE (.li p.1) with
    | error c => exact .er (h2 c h3)
    | ok q => exact .ok _
theorem over_nz {o : Int} {g : V → Int → ER V} {r : ER V} (hg : ∀ x f, Nz (g x f)) (hr : Nz r) : Nz (overE o g r) := by
  unfold overE
  cases r with
  | error c => exact .er (hr c rfl)
  | ok p => exact Nz.ite (fun _ => .er (by decide)) fun _ => Nz.ite (fun _ => madeF_nz (map_nz hg _ _)) fun _ => Nz.ite (fun _ => madeF_nz (fil_nz (fun x f => Nz.tru (hg x f)) _ _)) fun _ => fnd_nz (fun x f => Nz.tru (hg x f)) _ _
theorem evs_len : ∀ (l : List EX) {s : ScT} {f f' : Int} {vs : List V}, EX.evs l s f = .ok (vs, f') → vs.length = l.length
  | [], s, f, f', vs, h => by rw [EX.evs] at h; cases h; rfl
  | x :: r, s, f, f', vs, h => by
    rw [EX.evs] at h
    cases h1 : x.ev s f with
    | error c => rw [h1] at h; cases h
    | ok p =>
      rw [h1] at h
      simp only [] at h
      cases h2 : EX.evs r s p.2 with
      | error c => rw [h2] at h; cases h
      | ok q =>
        rw [h2] at h; cases h
        simp [evs_len r h2]
mutual
theorem EX.ev_nz : ∀ (e : EX) (s : ScT) (f : Int), e.Fine → Nz (e.ev s f)
  | .mk o b t l, s, f, hf => by
    obtain ⟨h0, h30, h8, ha⟩ := EX.ok_args hf.part
    have hk : ∀ x ∈ l, x.Fine := fun x hx => hf.kid hx
    rw [EX.ev]
    refine Nz.ite (fun _ => .er (by decide)) fun _ => ?_
    refine Nz.ite (fun _ => .ok _) fun n0 => Nz.ite (fun _ => .ok _) fun n1 => Nz.ite (fun _ => .ok _) fun n2 => Nz.ite (fun _ => .ok _) fun n3 => Nz.ite (fun _ => .ok _) fun n4 => Nz.ite (fun _ => .ok _) fun n5 => Nz.ite (fun _ => .ok _) fun n6 => Nz.ite (fun _ => .ok _) fun n7 => ?_
    refine Nz.ite (fun c => EX.evAO_nz false l s _ hk (by omega)) fun n18 => Nz.ite (fun c => EX.evAO_nz true l s _ hk (by omega)) fun n19 => Nz.ite (fun c => EX.evIf_nz l s _ hk (by omega)) fun n21 => Nz.ite (fun c => EX.evOv_nz o l s _ hk (by omega)) fun nov => ?_
    have h1 := EX.evs_nz l s (f - 1) hk
    cases h : EX.evs l s (f - 1) with
    | error c => exact .er (h1 c h)
    | ok p =>
      have h2 := evs_len l h
      have h3 := plain_nz (o := o) (t := t) (l := p.1) (by omega)
      simp only []
      cases h4 : plainE o t p.1 with
      | error c => exact .er (h3 c h4)
      | ok q => exact .ok _
theorem EX.evs_nz : ∀ (l : List EX) (s : ScT) (f : Int), (∀ x ∈ l, x.Fine) → Nz (EX.evs l s f)
  | [], s, f, hf => by rw [EX.evs]; exact .ok _
  | x :: r, s, f, hf => by
    have h1 := EX.ev_nz x s f (hf x (by simp))
    rw [EX.evs]
    cases h : x.ev s f with
    | error c => exact .er (h1 c h)
    | ok p =>
      have h2 := EX.evs_nz r s p.2 (fun z hz => hf z (by simp [hz]))
      simp only []
      cases h3 : EX.evs r s p.2 with
      | error c => exact .er (h2 c h3)
      | ok q => exact .ok _
theorem EX.evAO_nz : ∀ (k : Bool) (l : List EX) (s : ScT) (f : Int), (∀ x ∈ l, x.Fine) → l.length = 2 → Nz (EX.evAO k l s f)
  | k, [], s, f, hf, h2 => by simp at h2
  | k, [_], s, f, hf, h2 => by simp at h2
  | k, x :: y :: _, s, f, hf, h2 => by
    have h1 := Nz.tru (EX.ev_nz x s f (hf x (by simp)))
    rw [EX.evAO]
    cases h : truE (x.ev s f) with
    | error c => exact .er (h1 c h)
    | ok p =>
      refine Nz.ite (fun _ => .ok _) fun _ => ?_
      have h3 := Nz.tru (EX.ev_nz y s p.2 (hf y (by simp)))
      cases h4 : truE (y.ev s p.2) with
      | error c => exact .er (h3 c h4)
      | ok q => exact .ok _
theorem EX.evIf_nz : ∀ (l : List EX) (s : ScT) (f : Int), (∀ x ∈ l, x.Fine) → l.length = 3 → Nz (EX.evIf l s f)
  | [], s, f, hf, h2 => by simp at h2
  | [_], s, f, hf, h2 => by simp at h2
  | [_, _], s, f, hf, h2 => by simp at h2
  | x :: y :: z :: _, s, f, hf, h2 => by
    have h1 := Nz.tru (EX.ev_nz x s f (hf x (by simp)))
    rw [EX.evIf]
    cases h : truE (x.ev s f) with
    | error c => exact .er (h1 c h)
    | ok p => exact Nz.ite (fun _ => EX.ev_nz y s p.2 (hf y (by simp))) fun _ => EX.ev_nz z s p.2 (hf z (by simp))
theorem EX.evOv_nz : ∀ (o : Int) (l : List EX) (s : ScT) (f : Int), (∀ x ∈ l, x.Fine) → l.length = 2 → Nz (EX.evOv o l s f)
  | o, [], s, f, hf, h2 => by simp at h2
  | o, [_], s, f, hf, h2 => by simp at h2
  | o, x :: y :: _, s, f, hf, h2 => by
    rw [EX.evOv]
    exact over_nz (fun it g => EX.ev_nz y { s with it } g (hf y (by simp))) (EX.ev_nz x s f (hf x (by simp)))
end
theorem evalT_cases (e : EX) (s : ScT) (f : Int) : (∃ c, c ≠ 0 ∧ evalT e s f = (.nil, 0, c)) ∨ ∃ v f', e.ev s f = .ok (v, f') ∧ evalT e s f = (v, f', 0) ∧ e.err = 0 ∧ (s.st.err = 0 ∧ s.ev.err = 0 ∧ s.it.err = 0) ∧ 0 ≤ f ∧ f ≤ 4096 := by
  unfold evalT
  by_cases h1 : e.err = 0
  · rw [if_neg (by simp [h1])]
    by_cases h2 : s.st.err = 0
    · rw [if_neg (by simp [h2])]
      by_cases h3 : s.ev.err = 0
      · rw [if_neg (by simp [h3])]
        by_cases h4 : s.it.err = 0
        · rw [if_neg (by simp [h4])]
          by_cases h5 : f < 0 ∨ 4096 < f
          · rw [if_pos h5]; exact .inl ⟨4, by decide, rfl⟩
          · rw [if_neg h5]
            cases h : e.ev s f with
            | error c => exact .inl ⟨c, EX.ev_nz e s f (EX.fine_of h1) c h, by unfold runT; rw [h]⟩
            | ok p => exact .inr ⟨p.1, p.2, rfl, by unfold runT; rw [h], h1, ⟨h2, h3, h4⟩, by omega, by omega⟩
        · rw [if_pos h4]; exact .inl ⟨_, h4, rfl⟩
      · rw [if_pos h3]; exact .inl ⟨_, h3, rfl⟩
    · rw [if_pos h2]; exact .inl ⟨_, h2, rfl⟩
  · rw [if_pos h1]; exact .inl ⟨_, h1, rfl⟩
end Go.Proofs.YtjhonjdhanlbkaaGreat.J

/- Lists that are pushed onto, filtered, searched: plain. -/
namespace Go.Proofs.YtjhonjdhanlbkaaGreat.J
open Go Go.RowKit
theorem li_eq {l : V} (h : l.good) (hk : l.kind = 4) : l = .li l.items := by
  obtain ⟨k, b, t, ks, is⟩ := l
  have hp := h.fine.part
  simp only [V.kind] at hk
  subst hk
  simp [partOk] at hp
  obtain ⟨⟨⟨h1, h2⟩, h3⟩, h4⟩ := hp
  subst h1 h2 h3; rfl
end Go.Proofs.YtjhonjdhanlbkaaGreat.J

/- What the page reckons of one and of two values, told as the page does. -/
namespace Go.Proofs.YtjhonjdhanlbkaaGreat.J
open Go Go.RowKit
theorem getE_one {a : V} (ha : a.err = 0) (s : StT) : getE a s = if (a.fnd s).2 = 0 then .ok (a.kid (a.fnd s).1) else .error (a.fnd s).2 := by
  have hg : a.getv [s] = a.walk [s] := if_neg (by simp [ha])
  have hw : a.walk [s] = if (a.fnd s).2 ≠ 0 then (.nil, (a.fnd s).2) else (a.kid (a.fnd s).1, 0) := by
    unfold V.walk
    split
    · rfl
    · unfold V.walk; rfl
  unfold getE
  rw [hg, hw]
  by_cases h : (a.fnd s).2 = 0
  · simp [h]
  · simp [h]
theorem rec_no {a : V} (ha : a.err = 0) (hk : ¬ a.kind = 5) (t : Str) : getE a ⟨true, t, 0⟩ = .error 81 := by
  rw [getE_one ha]
  have : a.fnd ⟨true, t, 0⟩ = (0, 81) := by unfold V.fnd; simp [hk]
  rw [this]; rfl
theorem rec_hit {a : V} (ha : a.good) (hk : a.kind = 5) {t : Str} {j : Nat} (hj : j < a.keys.length) (hj2 : j < a.items.length) (he : a.keys[j] = t) : getE a ⟨true, t, 0⟩ = .ok a.items[j] := by
  rw [getE_one ha.err]
  have hl := low_eq (ha.fine.sorted hk) hj he
  have : a.fnd ⟨true, t, 0⟩ = (j, 0) := by unfold V.fnd; simp [hk, hl, hj, he]
  rw [this, if_pos rfl, V.kid_eq hj2]
theorem rec_miss {a : V} (ha : a.good) (hk : a.kind = 5) {t : Str} (h : ∀ i (hi : i < a.keys.length), ¬ a.keys[i] = t) : getE a ⟨true, t, 0⟩ = .error 71 := by
  rw [getE_one ha.err]
  have hn : ¬ a.keys[low a.keys t]? = some t := fun h1 => by
    obtain ⟨h2, h3⟩ := List.getElem?_eq_some_iff.1 h1
    exact h _ h2 h3
  have : a.fnd ⟨true, t, 0⟩ = (low a.keys t, 71) := by unfold V.fnd; simp [hk, hn]
  rw [this]; rfl
theorem idx_get {a : V} (ha : a.good) (hk : a.kind = 4) {n : Int} : getE a ⟨false, [], n⟩ = if n < 0 ∨ (a.items.length : Int) ≤ n then .error 82 else .ok (a.kid n.toNat) := by
  rw [getE_one ha.err]
  have : a.fnd ⟨false, [], n⟩ = if n < 0 ∨ (a.items.length : Int) ≤ n then (0, 82) else (n.toNat, 0) := by unfold V.fnd; simp [hk]
  rw [this]
  split
  · rfl
  · rfl
theorem push_put {a : V} (ha : a.good) (hk : a.kind = 4) (b : V) : a.set [⟨false, [], a.items.length⟩] b = if 32 ≤ a.items.length then (.nil, 3) else (.li (a.items ++ [b]), 0) := by
  have hf : a.fnd ⟨false, [], a.items.length⟩ = (0, 82) := by unfold V.fnd; simp [hk]
  have hgw : a.grw ⟨false, [], a.items.length⟩ 0 82 = (if 32 ≤ a.items.length then (0, 3) else (a.items.length, 0)) := by
    unfold V.grw; rw [if_neg (by simp), if_pos ⟨rfl, rfl⟩]
  show a.put _ b = _
  rw [V.put, hf, if_neg (by decide), hgw]
  by_cases h32 : 32 ≤ a.items.length
  · simp [h32]
  · simp only [h32, if_false, if_true]
    have hl := li_eq ha hk
    rw [hl]; simp [V.ins, V.li, V.kind, V.bits, V.text, V.keys, V.items]
theorem push_eq {a b : V} (ha : a.good) (hb : b.good) (hk : a.kind = 4) : setE a ⟨false, [], a.items.length⟩ b = if 32 ≤ a.items.length then .error 84 else madeE (.li (a.items ++ [b])) := by
  have hs : a.setv [⟨false, [], a.items.length⟩] b = if (a.set [⟨false, [], a.items.length⟩] b).2 ≠ 0 then (.nil, (a.set [⟨false, [], a.items.length⟩] b).2) else if (a.set [⟨false, [], a.items.length⟩] b).1.err ≠ 0 then (.nil, (a.set [⟨false, [], a.items.length⟩] b).1.err) else ((a.set [⟨false, [], a.items.length⟩] b).1, 0) := by
    unfold V.setv
    rw [if_neg (by simp [ha.err]), if_neg (by simp [hb.err])]
  unfold setE madeE
  rw [hs, push_put ha hk]
  by_cases h32 : 32 ≤ a.items.length
  · simp [h32]
  · simp only [h32, if_false]
    by_cases he : (V.li (a.items ++ [b])).err = 0
    · simp [he]
    · simp [he]
theorem Rok.ite {α : Type} {p : Prop} [Decidable p] {B : Bool} {c : Int} {v : α} (hc : ¬ c = 0) (h : B = true ↔ p) : Rok (if p then .error c else .ok v) v (failE 0 B c) := by
  by_cases hp : p
  · rw [if_pos hp, h.2 hp]; exact .inr ⟨hc, rfl⟩
  · rw [if_neg hp, show B = false from Bool.eq_false_iff.2 (fun hb => hp (h.1 hb))]; exact .inl ⟨rfl, rfl⟩
theorem Rok.ite2 {α : Type} {p q : Prop} [Decidable p] [Decidable q] {B C : Bool} {c d : Int} {v : α} (hc : ¬ c = 0) (hd : ¬ d = 0) (h : B = true ↔ p) (h2 : C = true ↔ q) : Rok (if p then .error c else if q then .error d else .ok v) v (failE (failE 0 B c) C d) := by
  by_cases hp : p
  · rw [if_pos hp, h.2 hp, show failE 0 true c = c from rfl, failE_k hc]; exact .inr ⟨hc, rfl⟩
  · rw [if_neg hp, show B = false from Bool.eq_false_iff.2 (fun hb => hp (h.1 hb)), failE_n]; exact Rok.ite hd h2
theorem Rok.made {a b : V} {B : Bool} (hB : B = true ↔ 32 ≤ a.items.length) (ha : a.good) (hb : b.good) (hk : a.kind = 4) : Rok (setE a ⟨false, [], a.items.length⟩ b) (.li (a.items ++ [b])) (failE (failE 0 B 84) (decide ((V.li (a.items ++ [b])).err ≠ 0)) 84) := by
  rw [push_eq ha hb hk]
  unfold madeE
  by_cases h32 : 32 ≤ a.items.length
  · rw [if_pos h32, hB.2 h32, show failE 0 true 84 = 84 from rfl, failE_k (by decide)]; exact .inr ⟨by decide, rfl⟩
  · rw [if_neg h32, show B = false from Bool.eq_false_iff.2 (fun hb => h32 (hB.1 hb)), failE_n]
    by_cases he : (V.li (a.items ++ [b])).err = 0
    · rw [if_pos he, failE_q (by simp [he])]; exact .inl ⟨rfl, rfl⟩
    · rw [if_neg he, failE_p he]; exact .inr ⟨by decide, rfl⟩
end Go.Proofs.YtjhonjdhanlbkaaGreat.J

/- Walks: the page's digits and arithmetic. -/
namespace Go.Proofs.YtjhonjdhanlbkaaGreat.J
open Go Go.RowKit
set_option maxRecDepth 10000
set_option maxHeartbeats 4000000
def sg (n : Int) (m : Nat) : Int := if n < 0 then -(m : Int) else (m : Int)
theorem sg_abs (n : Int) : sg n n.natAbs = n := by unfold sg; split <;> omega
theorem sg_rem (n : Int) (m : Nat) : (sg n m).tmod 10 = sg n (m % 10) := by
  unfold sg
  split
  · rw [Int.neg_tmod]; rfl
  · rfl
theorem sg_quo (n : Int) (m : Nat) : (sg n m).tdiv 10 = sg n (m / 10) := by
  unfold sg
  split
  · rw [Int.neg_tdiv]; rfl
  · rfl
theorem sg_bd {n : Int} {m k : Nat} (h : m < k) : -(k : Int) < sg n m ∧ sg n m < (k : Int) := by unfold sg; split <;> omega
theorem rdig_ok (n : Int) (hn : n.natAbs < 10000000000000000) : Fn Tryz.prog 107 [.c (.int .i64 n)] (.c (str (intD n))) := by
  obtain ⟨N, hN⟩ : ∃ N, n.natAbs = N := ⟨_, rfl⟩
  have hN16 : N < 10000000000000000 := by omega
  have hsn : sg n N = n := hN ▸ sg_abs n
  refine AC.of_J Tryz.func107 rfl Tryz.ntmps107 rfl fun w0 A0 => ?_
  refine Zs (Zq rfl (QW.assign .const) (Zn (Zs (Zq rfl (QW.assign .const) (Zn (J.seq (Zs (Zq rfl (QW.move (.tmp rfl)) (Zq rfl (QW.assign (.tmp rfl)) ?_)))))))))
  refine Zn (J.block (J.loopK (ι := Str × Nat) [0, 2] (fun ⟨d, m⟩ => [(4, .c (.int .i64 (sg n m))), (3, .c (str d))]) (fun _ oo => oo) (fun ⟨d, m⟩ => m ≤ N ∧ d.length ≤ 16 ∧ m < 10 ^ (16 - d.length) ∧ natD N = (if m = 0 ∧ d ≠ [] then [] else natD m) ++ d) (fun ⟨d, m⟩ => m + (if d = [] then 1 else 0)) ⟨[], N⟩ (⟨Nat.le_refl _, by simp, by simpa using hN16, by simp⟩) (Wk.re (.cons rfl (by rw [hsn]; exact .refl _) (.cons rfl lr (.cons rfl lr (.cons rfl lr .nil)))) (Reown.refl _) (fun _ h => by first | exact h | simp [h])) ?_))
  intro ⟨d, m⟩ ⟨hmN, hd16, hm10, hnd⟩
  refine J.conv (by (try simp only [nl, stepsO, valO, nthO, curO, mrg, AV.cellsOf, splice_zero, splice_succ, Nat.reduceAdd]); rfl) ?_
  refine J.seq (Zs (Zq rfl (QW.move (.tmp rfl)) (Zq rfl (QW.neq (.tmp rfl) .const) (Zq rfl (QW.move (.tmp rfl)) (Zg rfl (fun hg => (QW.move (.tmp rfl))) (Zg rfl (fun hg => (QW.eql_s (.when rfl hg) .const)) (Zq rfl (QW.pick_or (.tmp rfl) (.tmp rfl)) (Zn ?_))))))))
  refine J.cond (.tmp rfl) (fun c1 => ?_) (fun c1 => ?_)
  · skip
    have hc : 0 < m ∨ d = [] := by
      simp at c1
      exact c1.imp (fun h => by unfold sg at h; split at h <;> omega) (fun h => h)
    have hd15 : d.length ≤ 15 := by
      rcases hc with hc | hc
      · exact Nat.lt_succ_iff.1 (Nat.lt_of_le_of_ne hd16 fun h => by rw [h] at hm10; simp at hm10; omega)
      · subst hc; exact Nat.zero_le _
    obtain ⟨q, hq⟩ : ∃ q, 16 - d.length = q + 1 := ⟨15 - d.length, by omega⟩
    rw [hq, Nat.pow_succ] at hm10
    refine Zk (J.seq (J.block (Zs (Zq rfl (QW.move (.tmp rfl)) (Zq rfl (QW.rem (.tmp rfl) .const (by decide) (c := sg n (m % 10)) (sg_rem n m)) ?_)))))
    refine Zq rfl (QW.assign (.tmp rfl)) (Zn (J.seq (Zs (Zq rfl (QW.move (.tmp rfl)) (Zq rfl (QW.lss (.tmp rfl) .const) (Zn ?_))))))
    refine J.cond (.tmp rfl) (fun c2 => ?_) (fun c2 => ?_)
    · skip
      have hneg : sg n (m % 10) < 0 := by simpa using c2
      refine J.region_lit (Zq rfl (QW.move (.tmp rfl)) (Zq rfl (QW.neg (.tmp rfl) (c := ((m % 10 : Nat) : Int)) (by have := sg_bd (n := n) (m := m % 10) (k := 10) (by omega); rw [show (0 : Int) - sg n (m % 10) = ((m % 10 : Nat) : Int) by (unfold sg at *; split at hneg <;> omega)]; exact w64 (by omega))) ?_))
      refine Zq rfl (QW.assign (.tmp rfl)) (Zn (J.region_lit (Zq rfl (QW.move (.tmp rfl)) (Zq rfl (QW.add .const (.tmp rfl) (c := 48 + ((m % 10 : Nat) : Int)) (w64 (by omega))) (Zq rfl (QW.conv_int us3 iu5 (.tmp rfl) (c := ((UInt8.ofNat (48 + m % 10)).toNat : Int)) (by rw [digC]; exact wu8 (by omega))) ?_)))))
      refine Zq rfl (QW.buildSlice (idx := [0]) (xs := bytesAV [UInt8.ofNat (48 + m % 10)]) sl139 el5 z5 rfl (.cons (.tmp rfl) .nil) rfl rfl rfl rfl rfl rfl rfl rfl rfl) (Zq rfl (QW.bytes_str sl139 st9 iu5 (.tmp rfl)) (Zq rfl (QW.move (.tmp rfl)) (Zq rfl (QW.add_s (.tmp rfl) (.tmp rfl) (by (simp; omega))) ?_)))
      refine Zq rfl (QW.assign (.tmp rfl)) (JL.nil (blkQ.n (thenQ.n (J.region_lit (Zq rfl (QW.move (.tmp rfl)) (Zq rfl (QW.quo (.tmp rfl) .const (by decide) (c := sg n (m / 10)) (by rw [sg_quo]; have := sg_bd (n := n) (m := m / 10) (k := 10000000000000000) (by omega); exact w64 (by omega))) ?_))))))
      refine Zq rfl (QW.assign (.tmp rfl)) (Zn ?_)
      exact ⟨⟨UInt8.ofNat (48 + m % 10) :: d, m / 10⟩, ⟨by show m / 10 ≤ N; omega, by simp; omega, by rw [List.length_cons, show 16 - (d.length + 1) = q by omega]; exact Nat.div_lt_of_lt_mul (by omega), natD_step hnd hc⟩, hc.elim (fun h => by have := Nat.div_lt_self h (by decide : 1 < 10); show m / 10 + (if UInt8.ofNat (48 + m % 10) :: d = [] then 1 else 0) < m + (if d = [] then 1 else 0); rw [if_neg (by simp)]; omega) (fun h => by subst h; show m / 10 + (if UInt8.ofNat (48 + m % 10) :: ([] : Str) = [] then 1 else 0) < m + 1; rw [if_neg (by simp)]; omega), Wk.re (.cons rfl lr (.cons rfl lr (.cons rfl lr (.cons rfl lr .nil)))) (Reown.refl _) (fun _ h => by first | exact h | simp [h])⟩
    have hpos : sg n (m % 10) = ((m % 10 : Nat) : Int) := by (simp at c2; unfold sg at *; split at c2 <;> omega)
    rw [hpos]
    refine Zk (J.region_lit (Zq rfl (QW.move (.tmp rfl)) (Zq rfl (QW.add .const (.tmp rfl) (c := 48 + ((m % 10 : Nat) : Int)) (w64 (by omega))) (Zq rfl (QW.conv_int us3 iu5 (.tmp rfl) (c := ((UInt8.ofNat (48 + m % 10)).toNat : Int)) (by rw [digC]; exact wu8 (by omega))) ?_))))
    refine Zq rfl (QW.buildSlice (idx := [0]) (xs := bytesAV [UInt8.ofNat (48 + m % 10)]) sl139 el5 z5 rfl (.cons (.tmp rfl) .nil) rfl rfl rfl rfl rfl rfl rfl rfl rfl) (Zq rfl (QW.bytes_str sl139 st9 iu5 (.tmp rfl)) (Zq rfl (QW.move (.tmp rfl)) (Zq rfl (QW.add_s (.tmp rfl) (.tmp rfl) (by (simp; omega))) ?_)))
    refine Zq rfl (QW.assign (.tmp rfl)) (JL.nil (blkQ.n (thenQ.n (J.region_lit (Zq rfl (QW.move (.tmp rfl)) (Zq rfl (QW.quo (.tmp rfl) .const (by decide) (c := sg n (m / 10)) (by rw [sg_quo]; have := sg_bd (n := n) (m := m / 10) (k := 10000000000000000) (by omega); exact w64 (by omega))) ?_))))))
    refine Zq rfl (QW.assign (.tmp rfl)) (Zn ?_)
    exact ⟨⟨UInt8.ofNat (48 + m % 10) :: d, m / 10⟩, ⟨by show m / 10 ≤ N; omega, by simp; omega, by rw [List.length_cons, show 16 - (d.length + 1) = q by omega]; exact Nat.div_lt_of_lt_mul (by omega), natD_step hnd hc⟩, hc.elim (fun h => by have := Nat.div_lt_self h (by decide : 1 < 10); show m / 10 + (if UInt8.ofNat (48 + m % 10) :: d = [] then 1 else 0) < m + (if d = [] then 1 else 0); rw [if_neg (by simp)]; omega) (fun h => by subst h; show m / 10 + (if UInt8.ofNat (48 + m % 10) :: ([] : Str) = [] then 1 else 0) < m + 1; rw [if_neg (by simp)]; omega), Wk.re (.cons rfl lr (.cons rfl lr (.cons rfl lr (.cons rfl lr .nil)))) (Reown.refl _) (fun _ h => by first | exact h | simp [h])⟩
  have hz : m = 0 ∧ d ≠ [] := by
    simp at c1
    exact ⟨by have := c1.1; unfold sg at this; split at this <;> omega, c1.2⟩
  rw [if_pos hz, List.nil_append] at hnd
  refine J.exit (thenQ.x (thenQ.x (blkQ.hit (thenQ.n (J.seq (Zs (Zq rfl (QW.move (.tmp rfl)) (Zq rfl (QW.lss (.tmp rfl) .const) (Zn ?_)))))))))
  refine J.cond (.tmp rfl) (fun c2 => ?_) (fun c2 => ?_)
  · skip
    have hlt : n < 0 := by simpa using c2
    refine J.region_lit (Zq rfl (QW.move (.tmp rfl)) (Zq rfl (QW.add_s .const (.tmp rfl) (by (simp; omega))) ?_))
    exact Zq rfl (QW.assign (.tmp rfl)) (Zn (Zs (Zq rfl (QW.move (.tmp rfl)) (Zq rfl (QW.assign (.tmp rfl)) (Zn (J.ret (Zr [] (RetEv.one rfl (REv.tmp rfl lr)) rfl ⟨by rw [intD, if_pos hlt, hN, hnd]; rfl, rfl⟩)))))))
  have hge : ¬ n < 0 := by simpa using c2
  exact Zk (Zs (Zq rfl (QW.move (.tmp rfl)) (Zq rfl (QW.assign (.tmp rfl)) (Zn (J.ret (Zr [] (RetEv.one rfl (REv.tmp rfl lr)) rfl ⟨by rw [intD, if_neg hge, hN, hnd], rfl⟩))))))
theorem rdigits_ok (b : Nat) (hb : b < 2 ^ 64) : Fn Tryz.prog 80 [.c (.int .u64 (b : Int))] (digE b) := by
  refine AC.of_J Tryz.func80 rfl Tryz.ntmps80 rfl fun w0 A0 => ?_
  refine Zs (Zq rfl (QW.assign .const) (Zq rfl (QW.assign .const) (Zn (Zs (Zq rfl (QW.move (.tmp rfl)) (Zq rfl (QW.call gofn81 (.cons (.tmp rfl) .nil) (rint_ok _ hb)) (Zq rfl (QW.move (.tmp rfl)) (Zq rfl (QW.extract (.tmp rfl) rfl) (Zq rfl (QW.extract (.tmp rfl) rfl) ?_)))))))))
  refine Zq rfl (QW.assign (.tmp rfl)) (Zq rfl (QW.assign (.tmp rfl)) (Zn (J.seq (Zs (Zq rfl (QW.move (.tmp rfl)) (Zq rfl (QW.neq (.tmp rfl) .const) (Zn ?_)))))))
  refine J.cond (.tmp rfl) (fun c1 => ?_) (fun c1 => ?_)
  · skip
    have hne : ¬ intE b = 0 := by simpa using c1
    exact Zs (Zq rfl (QW.assign .const) (Zq rfl (QW.assign .const) (Zn (J.ret (thenQ.r (Zr [] (RetEv.two rfl (REv.tmp rfl lr) (REv.tmp rfl lr)) rfl ⟨by rw [digE, if_neg hne, if_neg hne], rfl⟩))))))
  have he0 : intE b = 0 := by simpa using c1
  refine Zk (Zs (Zq rfl (QW.move (.tmp rfl)) (Zq rfl (QW.call gofn107 (.cons (.tmp rfl) .nil) (rdig_ok _ (by have := intV_bounds b he0; omega))) ?_)))
  exact Zq rfl (QW.assign (.tmp rfl)) (Zq rfl (QW.assign .const) (Zn (J.ret (Zr [] (RetEv.two rfl (REv.tmp rfl lr) (REv.tmp rfl lr)) rfl ⟨by rw [digE, if_pos he0, if_pos he0], rfl⟩))))
theorem arith15_ok {a c : V} {o : Int} {s : ScT} {f : Int} {b : Nat} (ho : o = 11 ∨ o = 12 ∨ o = 13 ∨ o = 14) :
    AC Tryz.prog 85 [qb b s f 0] [pb b, .c (.int .i64 o), .agg (a.cs false), .agg (c.cs false)] (RvO (if a.kind ≠ 2 ∨ c.kind ≠ 2 then .error 81 else .ok (.nu (arO o a.bits c.bits))) b s f) := by
  obtain ⟨ka, ua, ta, va, ia⟩ := a
  obtain ⟨kc, uc, tc, vc, ic⟩ := c
  refine AC.of_J Tryz.func85 rfl Tryz.ntmps85 rfl fun w0 A0 => ?_
  refine Zs (JL.box_agg (.tmp rfl) rfl fun b6 => JL.box_agg (.tmp rfl) rfl fun b7 => JL.alloc z29 rfl rfl fun b8 => Zn (Zs (Zq rfl (QW.move (.tmp rfl)) (Zq rfl (QW.field_ptr fo29_0 (.tmp rfl) rfl) (Zq rfl (QW.load_box1 2 ty3 (.tmp rfl) rfl rfl) (Zq rfl (QW.neq (.tmp rfl) .const) ?_))))))
  refine Zq rfl (QW.move (.tmp rfl)) (Zg rfl (fun hg => (QW.field_ptr fo29_0 (.tmp rfl) rfl)) (Zg rfl (fun hg => (QW.load_box1 1 ty3 (.when rfl hg) rfl rfl)) (Zg rfl (fun hg => (QW.neq (.when rfl hg) .const)) (Zq rfl (QW.pick_or (.tmp rfl) (.tmp rfl)) (JL.callRF [.k, .k, .k, .p] gofn51 rfl Lent.nil (fun _ => (.cons (.tmp rfl) (.cons (.tmp rfl) (.cons .const .nil)))) (fail15_ok b s f 0 _ 81) (.inl rfl) fun x19 o19 h19 => ?_)))))
  obtain ⟨rfl, rfl⟩ := h19
  refine Zn (Zs (Zq rfl (QW.build (idx := [0]) pl29 z29 rfl (.cons .const .nil) rfl rfl rfl rfl) (JL.alloc z29 rfl rfl fun b9 => JL.store_boxF 0 ty29 (.tmp rfl) rfl (.tmp rfl) rfl rfl rfl rfl (Zn (J.seq (Zs (Zq rfl (QW.move (.tmp rfl)) (Zn ?_))))))))
  refine J.block (Zs (Zq rfl (QW.eql (.tmp rfl) .const) (Zq rfl (QW.assign (.tmp rfl)) (Zn ?_))))
  refine J.cond (.tmp rfl) (fun c1 => ?_) (fun c1 => ?_)
  · skip
    obtain rfl : o = 11 := by simpa using c1
    refine J.region_lit (Zq rfl (QW.field_ptr fo29_1 (.tmp rfl) rfl) (Zq rfl (QW.load_box1 3 ty22 (.tmp rfl) rfl rfl) (Zq rfl (QW.field_ptr fo29_1 (.tmp rfl) rfl) (Zq rfl (QW.load_box1 2 ty22 (.tmp rfl) rfl rfl) (Zq rfl (QW.call gofn111 (.cons (.tmp rfl) (.cons (.tmp rfl) .nil)) (radd_ok _ _)) (Zq rfl (QW.field_ptr fo29_1 (.tmp rfl) rfl) (JL.store_box 0 ty22 (.tmp rfl) rfl (.tmp rfl) rfl rfl rfl rfl rfl (JL.nil (blkQ.n ?_)))))))))
    exact thenQ.n (Zs (Zq rfl (QW.load_box 0 ty29 (.tmp rfl) rfl rfl rfl) (JL.store_boxF 1 ty29 (.tmp rfl) rfl (.tmp rfl) rfl rfl rfl rfl (Zn (J.ret (Zr [.k, .k, .k, .k, .p] (RetEv.one rfl (REv.cell 1 ty29 rfl rfl rfl rfl (.aggL (.cons lr (.cons lr (.cons lr (.cons (.nil false false _) (.cons (.nil false false _) .nil)))))))) rfl (RvO.mk (v := .nu (arO 11 ua uc)) (Rok.ite (by decide) (by simp [V.kind])))))))))
  have n11 : ¬ o = 11 := by simpa using c1
  refine Zs (Zq rfl (QW.eql (.tmp rfl) .const) (Zq rfl (QW.assign (.tmp rfl)) (Zn ?_)))
  refine J.cond (.tmp rfl) (fun c2 => ?_) (fun c2 => ?_)
  · skip
    obtain rfl : o = 12 := by simpa using c2
    refine J.region_lit (Zq rfl (QW.field_ptr fo29_1 (.tmp rfl) rfl) (Zq rfl (QW.load_box1 3 ty22 (.tmp rfl) rfl rfl) (Zq rfl (QW.field_ptr fo29_1 (.tmp rfl) rfl) (Zq rfl (QW.load_box1 2 ty22 (.tmp rfl) rfl rfl) (Zq rfl (QW.call gofn106 (.cons (.tmp rfl) (.cons (.tmp rfl) .nil)) (rsub_ok _ _)) (Zq rfl (QW.field_ptr fo29_1 (.tmp rfl) rfl) (JL.store_box 0 ty22 (.tmp rfl) rfl (.tmp rfl) rfl rfl rfl rfl rfl (JL.nil (blkQ.n ?_)))))))))
    exact thenQ.n (Zs (Zq rfl (QW.load_box 0 ty29 (.tmp rfl) rfl rfl rfl) (JL.store_boxF 1 ty29 (.tmp rfl) rfl (.tmp rfl) rfl rfl rfl rfl (Zn (J.ret (Zr [.k, .k, .k, .k, .p] (RetEv.one rfl (REv.cell 1 ty29 rfl rfl rfl rfl (.aggL (.cons lr (.cons lr (.cons lr (.cons (.nil false false _) (.cons (.nil false false _) .nil)))))))) rfl (RvO.mk (v := .nu (arO 12 ua uc)) (Rok.ite (by decide) (by simp [V.kind])))))))))
  have n12 : ¬ o = 12 := by simpa using c2
  refine Zs (Zq rfl (QW.eql (.tmp rfl) .const) (Zq rfl (QW.assign (.tmp rfl)) (Zn ?_)))
  refine J.cond (.tmp rfl) (fun c3 => ?_) (fun c3 => ?_)
  · skip
    obtain rfl : o = 13 := by simpa using c3
    refine J.region_lit (Zq rfl (QW.field_ptr fo29_1 (.tmp rfl) rfl) (Zq rfl (QW.load_box1 3 ty22 (.tmp rfl) rfl rfl) (Zq rfl (QW.field_ptr fo29_1 (.tmp rfl) rfl) (Zq rfl (QW.load_box1 2 ty22 (.tmp rfl) rfl rfl) (Zq rfl (QW.call gofn112 (.cons (.tmp rfl) (.cons (.tmp rfl) .nil)) (rmul_ok _ _)) (Zq rfl (QW.field_ptr fo29_1 (.tmp rfl) rfl) (JL.store_box 0 ty22 (.tmp rfl) rfl (.tmp rfl) rfl rfl rfl rfl rfl (JL.nil (blkQ.n ?_)))))))))
    exact thenQ.n (Zs (Zq rfl (QW.load_box 0 ty29 (.tmp rfl) rfl rfl rfl) (JL.store_boxF 1 ty29 (.tmp rfl) rfl (.tmp rfl) rfl rfl rfl rfl (Zn (J.ret (Zr [.k, .k, .k, .k, .p] (RetEv.one rfl (REv.cell 1 ty29 rfl rfl rfl rfl (.aggL (.cons lr (.cons lr (.cons lr (.cons (.nil false false _) (.cons (.nil false false _) .nil)))))))) rfl (RvO.mk (v := .nu (arO 13 ua uc)) (Rok.ite (by decide) (by simp [V.kind])))))))))
  have n13 : ¬ o = 13 := by simpa using c3
  refine Zs (Zq rfl (QW.eql (.tmp rfl) .const) (Zq rfl (QW.assign (.tmp rfl)) (Zn ?_)))
  refine J.cond (.tmp rfl) (fun c4 => ?_) (fun c4 => ?_)
  · skip
    obtain rfl : o = 14 := by simpa using c4
    refine J.region_lit (Zq rfl (QW.field_ptr fo29_1 (.tmp rfl) rfl) (Zq rfl (QW.load_box1 3 ty22 (.tmp rfl) rfl rfl) (Zq rfl (QW.field_ptr fo29_1 (.tmp rfl) rfl) (Zq rfl (QW.load_box1 2 ty22 (.tmp rfl) rfl rfl) (Zq rfl (QW.call gofn113 (.cons (.tmp rfl) (.cons (.tmp rfl) .nil)) (rquo_ok _ _)) (Zq rfl (QW.field_ptr fo29_1 (.tmp rfl) rfl) (JL.store_box 0 ty22 (.tmp rfl) rfl (.tmp rfl) rfl rfl rfl rfl rfl (JL.nil (blkQ.n ?_)))))))))
    exact thenQ.n (Zs (Zq rfl (QW.load_box 0 ty29 (.tmp rfl) rfl rfl rfl) (JL.store_boxF 1 ty29 (.tmp rfl) rfl (.tmp rfl) rfl rfl rfl rfl (Zn (J.ret (Zr [.k, .k, .k, .k, .p] (RetEv.one rfl (REv.cell 1 ty29 rfl rfl rfl rfl (.aggL (.cons lr (.cons lr (.cons lr (.cons (.nil false false _) (.cons (.nil false false _) .nil)))))))) rfl (RvO.mk (v := .nu (arO 14 ua uc)) (Rok.ite (by decide) (by simp [V.kind])))))))))
  exact absurd c4 (by simp; omega)
  --closed
end Go.Proofs.YtjhonjdhanlbkaaGreat.J

/- A slice literal as an own array. -/
namespace Go.Proofs.YtjhonjdhanlbkaaGreat.J
open Go Go.RowKit
section
variable {P : Program} {E : Ent} {Q : Exit → St → Prop} {n : Nat} {env : List (Nat × AV)} {own : List Own} {F : List (Value × AV)} {D : List Deferred} {ops : Array Oper} {rest : List Oper}
variable {ty t et : TypeId} {pos : String} {af : Array Edge} {d : Nat}
end
end Go.Proofs.YtjhonjdhanlbkaaGreat.J

/- make of a slice, read alone. -/
namespace Go.Proofs.YtjhonjdhanlbkaaGreat.J
open Go Go.RowKit
theorem rep_at {α : Type} {l : List α} {y : α} : ∀ (m k : Nat), (List.replicate m l).flatten[k]? = some y → l[k % l.length]? = some y
  | 0, k, h => by simp at h
  | m + 1, k, h => by
    rw [List.replicate_succ, List.flatten_cons] at h
    by_cases hk : k < l.length
    · rw [List.getElem?_append_left hk] at h
      rwa [Nat.mod_eq_of_lt hk]
    · rw [List.getElem?_append_right (by omega)] at h
      rw [Nat.mod_eq_sub_mod (by omega)]
      exact rep_at m _ h
theorem QW.makeSlice {P : Program} {E : Ent} {st : St} {ty t et : TypeId} {pos : String} {af : Array Edge} {dd : Option Tmp} {gd : Option (Nat × Bool)} {l c : Operand} {e : ETy} {zc : List Value} {m : Nat} (hU : P.underlying t = some (.slice et)) (hE : elemB P et e = true)
    (hz : zeroCells P et = some zc) (hl : Ev E st l (.c (.int .i64 (m : Int)))) (hc : Ev E st c (.c (.int .i64 (m : Int)))) (hb : m * e.bytes ≤ reach) (hm : m ≤ reach) :
    QW P E st ⟨dd, .makeSlice t l c, ty, pos, af, gd⟩ (.sl true true e (List.replicate m (zc.map AV.c))) := fun A a w hA K Qx hK => by
  obtain ⟨ti, tz, hi1, hsz, hby, hz2, hzs, hone⟩ := elemB_get hE
  obtain ⟨ti', zv, h1, h2, h3⟩ := zero_get hz
  rw [hi1] at h1; cases h1
  rw [hz2] at h2; cases h2
  subst h3
  have hzl : tz.cells.toList.length = e.sz := by rw [Array.length_toList, hzs]
  have hby2 : (ti.bytes : Int) * (m : Int) ≤ 281474976710656 := by
    have h1 : ((e.bytes * m : Nat) : Int) ≤ 281474976710656 := by (rw [Nat.mul_comm]; unfold reach at hb; omega)
    rw [hby]; rwa [Int.natCast_mul] at h1
  have hr := run_make (P := P) w t et ti tz hU hi1 hz2 .i64 .i64 (m : Int) (m : Int) (by omega) (Int.le_refl _) hby2 (by unfold reach at hm; omega)
  simp only [Int.toNat_natCast] at hr
  rw [hsz] at hr
  have hsm : (madeCells tz.cells (m * e.sz)).size = (List.replicate m (tz.cells.toList.map AV.c)).flatten.length := by
    rw [size_madeCells]; simp [hzs]
  have hcs : Cells w A (madeCells tz.cells (m * e.sz)) 0 (List.replicate m (tz.cells.toList.map AV.c)).flatten := fun k y hk => by
    have hkl : k < m * e.sz := by
      have := (List.getElem?_eq_some_iff.1 hk).1
      rw [← hsm, size_madeCells] at this; exact this
    have he : 0 < e.sz := Nat.pos_of_ne_zero fun h => by rw [h, Nat.mul_zero] at hkl; omega
    have h1 := rep_at m k hk
    rw [List.length_map, hzl, List.getElem?_map] at h1
    have hlt : k % e.sz < tz.cells.size := by rw [hzs]; exact Nat.mod_lt _ he
    rw [show tz.cells.toList[k % e.sz]? = some tz.cells[k % e.sz] by simp [hlt]] at h1
    cases h1
    refine ⟨tz.cells[k % e.sz], ?_, (List.all_eq_true.1 hone) _ (by simp), .c _⟩
    rw [Nat.zero_add]
    simp [madeCells, hkl, hzs, getElem!_pos tz.cells (k % e.sz) hlt]
  refine wpR (by intro c h; cases h) ?_
  unfold Oper.wp
  have hx : (execOp a.eval ⟨dd, .makeSlice t l c, ty, pos, af, gd⟩).run P w = .ok (.value (.slice (some ⟨w.heap.size, 0, none⟩) m m)) (World.pushed w (.cells (madeCells tz.cells (m * e.sz)) et)) := by
    simp only [execOp, hl.eq hA, hc.eq hA, Sem.run_bind, hr, Result.andThen_ok, Sem.run_pure]
    rfl
  rw [hx, Oper.upon_value]
  obtain ⟨A', h1, h2, h3, h4⟩ := hA.fresh (t := et) hsm hcs
  refine hK _ _ A' h2 h1 ?_
  have hrl : (List.replicate m (tz.cells.toList.map AV.c)).length = m := List.length_replicate
  have hg : Rd _ A' (.slice (some ⟨w.heap.size, 0, none⟩) (List.replicate m (tz.cells.toList.map AV.c)).length (List.replicate m (tz.cells.toList.map AV.c)).length) (.sl true true e (List.replicate m (tz.cells.toList.map AV.c))) :=
    .sl true true e (List.replicate m (tz.cells.toList.map AV.c)) w.heap.size 0 (List.replicate m (tz.cells.toList.map AV.c)).length (madeCells tz.cells (m * e.sz)) et (0, 0) (fun k => (madeCells tz.cells (m * e.sz)).getD k undef) (h3 true) (heap_pushed _ _) (Nat.le_refl _) (fun _ => rfl) (fun x hx => by rw [List.eq_of_mem_replicate hx, List.length_map, hzl]) (by rw [hrl]; exact hb)
    (fun k y hk => by
      obtain ⟨u, g1, g0, _⟩ := h4 k y hk
      rw [Nat.zero_add] at g1 ⊢
      simp [Array.getD_eq_getD_getElem?, g1, g0])
    (fun k y hk => by
      obtain ⟨u, g1, _, g2⟩ := h4 k y hk
      rw [Nat.zero_add] at g1
      simpa [Array.getD_eq_getD_getElem?, g1] using g2)
  rw [hrl] at hg
  exact hg
end Go.Proofs.YtjhonjdhanlbkaaGreat.J

/- Walks: the page's machine: args, over. -/
namespace Go.Proofs.YtjhonjdhanlbkaaGreat.J
open Go Go.RowKit
set_option maxRecDepth 10000
set_option maxHeartbeats 4000000
def RsR (r : ER (List V)) (b : Nat) (s : ScT) (k : Nat) : Res → List Own → Prop := RetR fun x o => ∃ vs f' c, Rok r (vs, f') c ∧ (c = 0 → (∀ x ∈ vs, x.good) ∧ okF f') ∧ vs.length = k ∧ x = .sl false false eV (V.css false vs) ∧ o = [qb b s f' c]
theorem RsR.mk {r : ER (List V)} {b : Nat} {s : ScT} {k : Nat} {vs : List V} {f' c : Int} (h : Rok r (vs, f') c) (hg : c = 0 → (∀ x ∈ vs, x.good) ∧ okF f') (hl : vs.length = k) : RsR r b s k (.ret (.sl false false eV (V.css false vs))) [qb b s f' c] := ⟨_, rfl, vs, f', c, h, hg, hl, rfl, rfl⟩
def LpP {α : Type} (r : ER α) (vs : List V) (g c : Int) (q : ER α) : Prop := (c = 0 ∧ (∀ x ∈ vs, x.good) ∧ okF g ∧ r = q) ∨ (¬ c = 0 ∧ r = .error c)
theorem LpP.go {α : Type} {r : ER α} {vs : List V} {g : Int} {q : ER α} (h : LpP r vs g 0 q) : (∀ x ∈ vs, x.good) ∧ okF g ∧ r = q := h.elim (fun h => h.2) (fun h => absurd rfl h.1)
theorem LpP.bad {α : Type} {r : ER α} {vs : List V} {g c : Int} {q : ER α} (h : LpP r vs g c q) (hc : ¬ c = 0) : r = .error c := h.elim (fun h => absurd h.1 hc) (fun h => h.2)
theorem snoc_good {vs : List V} {v : V} (h : ∀ x ∈ vs, x.good) (hv : v.good) : ∀ x ∈ vs ++ [v], x.good := fun z hz => (List.mem_append.1 hz).elim (h z) (fun h => by rw [List.mem_singleton.1 h]; exact hv)
theorem args_step {l : List EX} {s : ScT} {j : Nat} {vs : List V} {v : V} {g f1 c1 : Int} {r : ER (List V)} (hj : j < l.length) (hw : l[j].wf) (hf : l[j].Fine) (hs : s.good) (hg : okF g) (hgd : ∀ x ∈ vs, x.good) (hr : r = joinV vs (EX.evs (l.drop j) s g)) (hv : Rok (l[j].ev s g) (v, f1) c1) :
    LpP r (vs ++ [v]) f1 c1 (joinV (vs ++ [v]) (EX.evs (l.drop (j + 1)) s f1)) := by
  by_cases hc : c1 = 0
  · have h1 := hv.ok hc
    obtain ⟨h2, h3⟩ := ev_okF hw hf hs hg h1
    exact .inl ⟨hc, snoc_good hgd h2, h3, hr.trans (evs_step hj h1)⟩
  · exact .inr ⟨hc, hr.trans (evs_bad hj (hv.er hc))⟩
theorem LeL.nils {F : List (Value × AV)} : ∀ k : Nat, LeL F (List.replicate k [AV.c (.int .i64 0), .c (.int .u64 0), .c (str []), .c (.slice none 0 0), .c (.slice none 0 0)]).flatten (V.css false (List.replicate k V.nil)).flatten
  | 0 => .nil
  | k + 1 => by
    rw [List.replicate_succ, List.replicate_succ, V.css, List.flatten_cons, List.flatten_cons]
    exact LeL.append (.cons (.refl _) (.cons (.refl _) (.cons (.refl _) (.cons (.nil false false _) (.cons (.nil false false _) .nil))))) (LeL.nils k)
theorem Le.nils {F : List (Value × AV)} (k : Nat) : Le F (.sl true true eV (List.replicate k [AV.c (.int .i64 0), .c (.int .u64 0), .c (str []), .c (.slice none 0 0), .c (.slice none 0 0)])) (.sl false false eV (V.css false (List.replicate k V.nil))) :=
  .slL (fun h => by cases h) (by rw [V.css_length]; simp) (V.css_sz false _) (LeL.nils k)
def ovL (o : Int) (G : V → Int → ER V) : List V → List V → Int → ER V
  | [], acc, f => if o = 29 then .error 71 else madeF (.ok (acc, f))
  | x :: r, acc, f => if o = 27 then (match G x f with
      | .error e => .error e
      | .ok (v, f1) => ovL o G r (acc ++ [v]) f1)
    else match truE (G x f) with
      | .error e => .error e
      | .ok (t, f1) => if t then (if o = 29 then .ok (x, f1) else ovL o G r (acc ++ [x]) f1) else ovL o G r acc f1
theorem ovL_map (G : V → Int → ER V) : ∀ (l acc : List V) (f : Int), ovL 27 G l acc f = madeF (match mapE G l f with
    | .error e => .error e
    | .ok (r, f') => .ok (acc ++ r, f'))
  | [], acc, f => by simp [ovL, mapE]
  | x :: r, acc, f => by
    rw [ovL, mapE]
    cases h : G x f with
    | error c => rfl
    | ok p =>
      obtain ⟨v, f1⟩ := p
      simp only [if_true]
      rw [ovL_map G r (acc ++ [v]) f1]
      cases mapE G r f1 with
      | error c => rfl
      | ok q => simp
theorem ovL_fil (G : V → Int → ER V) : ∀ (l acc : List V) (f : Int), ovL 28 G l acc f = madeF (match filE (fun x f => truE (G x f)) l f with
    | .error e => .error e
    | .ok (r, f') => .ok (acc ++ r, f'))
  | [], acc, f => by simp [ovL, filE]
  | x :: r, acc, f => by
    rw [ovL, filE, if_neg (by decide)]
    cases h : truE (G x f) with
    | error c => rfl
    | ok p =>
      obtain ⟨t, f1⟩ := p
      cases t with
      | true =>
        simp only [if_true]
        rw [if_neg (by decide), ovL_fil G r (acc ++ [x]) f1]
        cases filE (fun x f => truE (G x f)) r f1 with
        | error c => rfl
        | ok q => simp
      | false =>
        simp only [Bool.false_eq_true, if_false]
        rw [ovL_fil G r acc f1]
        cases filE (fun x f => truE (G x f)) r f1 with
        | error c => rfl
        | ok q => rfl
theorem ovL_fnd (G : V → Int → ER V) : ∀ (l acc : List V) (f : Int), ovL 29 G l acc f = fndE (fun x f => truE (G x f)) l f
  | [], acc, f => by simp [ovL, fndE]
  | x :: r, acc, f => by
    rw [ovL, fndE, if_neg (by decide)]
    cases h : truE (G x f) with
    | error c => rfl
    | ok p =>
      obtain ⟨t, f1⟩ := p
      cases t with
      | true => rfl
      | false => simp only [Bool.false_eq_true, if_false]; exact ovL_fnd G r acc f1
theorem ovL_eq {o : Int} (ho : o = 27 ∨ o = 28 ∨ o = 29) (G : V → Int → ER V) {v : V} (hk : v.kind = 4) (f : Int) : overE o G (.ok (v, f)) = ovL o G v.items [] f := by
  have h4 : ¬ v.kind ≠ 4 := fun h => h hk
  rcases ho with rfl | rfl | rfl
  · rw [ovL_map]; show (if v.kind ≠ 4 then _ else _) = _; rw [if_neg h4]; simp only [if_true, List.nil_append]; cases mapE G v.items f <;> rfl
  · rw [ovL_fil]; show (if v.kind ≠ 4 then _ else _) = _; rw [if_neg h4, if_neg (by decide)]; simp only [if_true, List.nil_append]; cases filE (fun x f => truE (G x f)) v.items f <;> rfl
  · rw [ovL_fnd]; show (if v.kind ≠ 4 then _ else _) = _; rw [if_neg h4, if_neg (by decide), if_neg (by decide)]
theorem ov_bad {o : Int} {G : V → Int → ER V} {k : Int} {u : Nat} {t : Str} {ks : List Str} {is : List V} {f : Int} (h : ¬ k = 4) (x : V) : Rok (overE o G (.ok (V.mk k u t ks is, f))) (x, f) (failE 0 (k != 4) 81) := by
  rw [show failE 0 (k != 4) 81 = 81 by rw [bne_iff_ne.2 h]; rfl]
  exact .inr ⟨by decide, if_pos h⟩
theorem ov_27 {G : V → Int → ER V} {l : List V} {j : Nat} {vs : List V} {v : V} {g f1 c1 : Int} {r : ER V} (hj : j < l.length) (hgd : ∀ x ∈ vs, x.good) (hr : r = ovL 27 G (l.drop j) vs g) (hv : Rok (G l[j] g) (v, f1) c1) (hok : c1 = 0 → v.good ∧ okF f1) :
    LpP r (vs ++ [v]) f1 c1 (ovL 27 G (l.drop (j + 1)) (vs ++ [v]) f1) := by
  rw [List.drop_eq_getElem_cons hj, ovL, if_pos rfl] at hr
  by_cases hc : c1 = 0
  · rw [hv.ok hc] at hr
    exact .inl ⟨hc, snoc_good hgd (hok hc).1, (hok hc).2, hr⟩
  · rw [hv.er hc] at hr
    exact .inr ⟨hc, hr⟩
theorem ov_n {o : Int} {G : V → Int → ER V} {l : List V} {j : Nat} {vs : List V} {g f1 c1 : Int} {t : Bool} {r : ER V} (hj : j < l.length) (n27 : ¬ o = 27) (hr : r = ovL o G (l.drop j) vs g) (hv : Rok (truE (G l[j] g)) (t, f1) c1) :
    (c1 = 0 → r = if t then (if o = 29 then .ok (l[j], f1) else ovL o G (l.drop (j + 1)) (vs ++ [l[j]]) f1) else ovL o G (l.drop (j + 1)) vs f1) ∧ (¬ c1 = 0 → r = .error c1) := by
  rw [List.drop_eq_getElem_cons hj, ovL, if_neg n27] at hr
  refine ⟨fun hc => ?_, fun hc => ?_⟩
  · rw [hv.ok hc] at hr; exact hr
  · rw [hv.er hc] at hr; exact hr
theorem ov_done {o : Int} {G : V → Int → ER V} {l : List V} {j : Nat} {vs : List V} {g c : Int} {r : ER V} (hx : l.length ≤ j ∨ ¬ c = 0) (h : LpP r vs g c (ovL o G (l.drop j) vs g)) : Rok r (.li vs, g) (failE (failE c (o == 29) 71) (decide ((V.li vs).err ≠ 0)) 84) := by
  by_cases hc : c = 0
  · subst hc
    obtain ⟨hgd, hg, hr⟩ := h.go
    rw [List.drop_of_length_le (hx.resolve_right (fun h => h rfl)), ovL] at hr
    by_cases ho : o = 29
    · subst ho
      rw [show failE 0 ((29 : Int) == 29) 71 = 71 from rfl, failE_k (by decide)]
      exact .inr ⟨by decide, hr⟩
    · rw [if_neg ho] at hr
      rw [show failE 0 (o == 29) 71 = 0 by rw [beq_eq_false_iff_ne.2 ho]; rfl]
      by_cases he : (V.li vs).err = 0
      · rw [failE_q (by simpa using he)]; exact .inl ⟨rfl, hr.trans (madeF_yes he)⟩
      · rw [failE_p he]; exact .inr ⟨by decide, hr.trans (madeF_no he)⟩
  · rw [failE_k hc, failE_k hc]; exact .inr ⟨hc, h.bad hc⟩
theorem args15_ok {n : Nat} (ih : RvIH n) {l : List EX} {s : ScT} {f : Int} {b : Nat} {fr : Bool} (hwl : ∀ x ∈ l, x.wf) (hfl : ∀ x ∈ l, x.Fine) (hsz : ∀ x ∈ l, x.sz ≤ n) (hs : s.good) (h0 : okF f) (h8 : l.length ≤ 8) :
    AC Tryz.prog 54 [qb b s f 0] [pb b, .sl fr false eEX (EX.css fr l)] (RsR (EX.evs l s f) b s l.length) := by
  refine AC.of_J Tryz.func54 rfl Tryz.ntmps54 rfl fun w0 A0 => ?_
  refine Zs (Zq rfl (QW.assign .const) (Zn (Zs (Zq rfl (QW.assign .const) (Zn (J.seq (Zs (Zq rfl (QW.assign .const) (Zn ?_)))))))))
  refine J.block (J.reown (Reown.nilArrE eV _) (J.loopK (ι := Nat × Value × List V × Int × Int) [0, 1, 4] (fun ⟨j, v, vs, g, c⟩ => [(6, .c (.int .i64 (j : Int))), (5, .c v)]) (fun ⟨j, v, vs, g, c⟩ oo => List.set (List.set oo 1 (.arr v eV (V.css false vs))) 0 (qb b s g c)) (fun ⟨j, v, vs, g, c⟩ => j ≤ l.length ∧ vs.length = j ∧ LpP (EX.evs l s f) vs g c (joinV vs (EX.evs (l.drop j) s g))) (fun ⟨j, v, vs, g, c⟩ => l.length - j) ⟨0, .slice none 0 0, [], f, 0⟩ (⟨Nat.zero_le _, rfl, .inl ⟨rfl, (fun _ h => by cases h), h0, joinV_nil _⟩⟩) (Wk.re (.cons rfl lr (.cons rfl lr (.cons rfl lr (.cons rfl lr (.cons rfl lr .nil))))) (Reown.refl _) (fun _ h => by first | exact h | simp [h])) ?_))
  intro ⟨j, v, vs, g, c⟩ ⟨hj, hvl, hP⟩
  refine J.conv (by (try simp only [nl, stepsO, valO, nthO, curO, mrg, AV.cellsOf, splice_zero, splice_succ, Nat.reduceAdd]); rfl) ?_
  refine J.seq (Zs (Zq rfl (QW.move (.tmp rfl)) (Zq rfl (QW.move (.tmp rfl)) (Zq rfl (QW.len_slE sl23 (.tmp rfl) (EX.css_length _ _)) (Zq rfl (QW.lss (.tmp rfl) (.tmp rfl)) (Zq rfl (QW.move (.tmp rfl)) (Zg rfl (fun hg => (QW.move (.tmp rfl))) (Zg rfl (fun hg => (QW.nil_ptr (.when rfl hg))) (Zg rfl (fun hg => (QW.field_ptr fo73_2 (.when rfl hg) rfl)) ?_)))))))))
  refine Zg rfl (fun hg => (QW.load_box1 0 ty3 (.when rfl hg) rfl qb_err)) (Zg rfl (fun hg => (QW.eql (.when rfl hg) .const)) (Zq rfl (QW.pick_and (.tmp rfl) (.tmp rfl)) (Zn ?_)))
  refine J.cond (.tmp rfl) (fun c1 => ?_) (fun c1 => ?_)
  · skip
    have hlt : j < l.length := by (simp [EX.css_length] at c1; exact c1.1)
    obtain rfl : c = 0 := by (simp at c1; exact c1.2)
    obtain ⟨hgd, hg, hR⟩ := hP.go
    refine Zk (J.seq (J.block (J.region_lit (Zq rfl (QW.move (.tmp rfl)) (Zq rfl (QW.move (.tmp rfl)) (Zq rfl (QW.move (.tmp rfl)) (Zq rfl (QW.move (.tmp rfl)) (Zq rfl (QW.index_sl sl23 ty25 rfl (.tmp rfl) (.tmp rfl) rfl (by exact EX.css_getE _ hlt)) ?_))))))))
    refine Zq rfl (QW.load_ref ty25 (.tmp rfl) (take_at0 xl rfl) xl) (JL.callRF [.p] gofn34 rfl Lent.nil (fun _ => (.cons (.tmp rfl) (.cons (.tmp rfl) .nil))) (ih l[j] s g b fr (hwl _ (List.getElem_mem hlt)) (hfl _ (List.getElem_mem hlt)) hs hg (hsz _ (List.getElem_mem hlt))) (.inl rfl) fun x26 o26 h26 => ?_)
    obtain ⟨v26, f26, c26, hv26, rfl, rfl⟩ := h26
    refine Zq rfl (QW.buildSlice (idx := [0]) (xs := [v26.cs false]) sl27 el29 z29 rfl (.cons (.tmp rfl) .nil) rfl rfl rfl rfl rfl (by exact fillOne vl) rfl (allOne vl) rfl) ?_
    refine JL.append 1 sl27 el29 rfl (.tmp rfl) rfl (srcA_sl sl27 (.tmp rfl)) (by rw [V.css_length]; show (_ + 1) * 80 ≤ _; unfold reach; omega) rfl fun v28 => ?_
    refine Zq rfl (QW.assign (.tmp rfl)) (JL.nil (blkQ.n (thenQ.n ?_)))
    rw [css_snoc]
    refine J.region_lit (Zq rfl (QW.move (.tmp rfl)) (Zq rfl (QW.add (.tmp rfl) .const (w64 (by omega))) (Zq rfl (QW.assign (.tmp rfl)) (Zn ?_))))
    exact ⟨⟨j + 1, v28, vs ++ [v26], f26, c26⟩, ⟨hlt, by simp [hvl], args_step hlt (hwl _ (List.getElem_mem hlt)) (hfl _ (List.getElem_mem hlt)) hs hg hgd hR hv26⟩, by show l.length - (j + 1) < l.length - j; omega, Wk.re (.cons rfl lr (.cons rfl lr (.cons rfl lr (.cons rfl lr (.cons rfl lr .nil))))) (Reown.refl _) (fun _ h => by first | exact h | simp [h])⟩
  have hx : l.length ≤ j ∨ ¬ c = 0 := by (simp [EX.css_length] at c1; by_cases hj1 : j < l.length; exact .inr (c1 hj1); exact .inl (by omega))
  refine J.exit (thenQ.x (thenQ.x (blkQ.hit (thenQ.n (J.seq (Zs (Zq rfl (QW.move (.tmp rfl)) (Zq rfl (QW.nil_ptr (.tmp rfl)) (Zq rfl (QW.field_ptr fo73_2 (.tmp rfl) rfl) ?_)))))))))
  refine Zq rfl (QW.load_box1 0 ty3 (.tmp rfl) rfl qb_err) (Zq rfl (QW.neq (.tmp rfl) .const) (Zn ?_))
  refine J.cond (.tmp rfl) (fun c2 => ?_) (fun c2 => ?_)
  · skip
    have hc : ¬ c = 0 := by simpa using c2
    refine Zs (Zq rfl (QW.move (.tmp rfl)) (Zq rfl (QW.len_slE sl23 (.tmp rfl) (EX.css_length _ _)) (Zq rfl ((QW.makeSlice (m := l.length) sl27 el29 z29 (.tmp rfl) (.tmp rfl) (by show _ * 80 ≤ _; unfold reach; omega) (by unfold reach; omega)).conv rfl) ?_)))
    exact Zq rfl (QW.assign (.tmp rfl)) (Zn (J.ret (thenQ.r (Zr [.p, .k] (RetEv.one rfl (REv.tmp rfl (Le.nils _))) rfl (RsR.mk (.inr ⟨hc, hP.bad hc⟩) (fun h => absurd h hc) (by simp))))))
  obtain rfl : c = 0 := by simpa using c2
  obtain ⟨hgd, hg, hR⟩ := hP.go
  have hlj : l.length ≤ j := hx.resolve_right (fun h => h rfl)
  rw [List.drop_of_length_le hlj, evs_done] at hR
  refine Zk (J.seq (J.closeArr 1 rfl (by rw [V.css_length]; show _ * 80 ≤ _; unfold reach; omega) rfl (fun z hz => by simp only [qb, fps_cons, fps_nil, Own.fp, List.append_nil, List.mem_singleton] at hz; subst hz; simp [qb, mrg, fps_cons, Own.fp]) ?_))
  exact J.region_lit (Zq rfl (QW.move (.tmp rfl)) (Zq rfl (QW.assign (.tmp rfl)) (Zn (J.ret (Zr [.p] (RetEv.one rfl (REv.tmp rfl (.fact (by simp) (.slL (fr := true) (clip := false) (fun h => by cases h) rfl (V.css_sz false _) (.refl _))))) rfl (RsR.mk (Rok.y hR) (fun _ => ⟨hgd, hg⟩) (by omega)))))))
theorem over15_ok {n : Nat} (ih : RvIH n) {v : V} {y : EX} {o : Int} {s : ScT} {f : Int} {b : Nat} {fr : Bool} {ys : List AV} (he : Xc fr y ys) (hvg : v.good) (hw : y.wf) (hf : y.Fine) (hs : s.good) (h0 : okF f) (hn : y.sz ≤ n) (ho : o = 27 ∨ o = 28 ∨ o = 29) :
    AC Tryz.prog 56 [qb b s f 0] [pb b, .agg (v.cs false), .agg ys, .c (.int .i64 o)] (RvR (overE o (ovG y s) (.ok (v, f))) b s) := by
  subst he
  obtain ⟨vk, vb, vt, vks, vis⟩ := v
  have hlen : vis.length ≤ 32 := hvg.len
  refine AC.of_J Tryz.func56 rfl Tryz.ntmps56 rfl fun w0 A0 => ?_
  refine Zs (JL.box_agg (.tmp rfl) rfl fun b5 => JL.box_agg (.tmp rfl) rfl fun b6 => JL.alloc z29 rfl rfl fun b8 => Zn (J.seq (Zs (Zq rfl (QW.move (.tmp rfl)) (Zq rfl (QW.field_ptr fo29_0 (.tmp rfl) rfl) (Zq rfl (QW.load_box1 2 ty3 (.tmp rfl) rfl rfl) ?_))))))
  refine Zq rfl (QW.neq (.tmp rfl) .const) (JL.callRF [.k, .k, .k, .p] gofn51 rfl Lent.nil (fun _ => (.cons (.tmp rfl) (.cons (.tmp rfl) (.cons .const .nil)))) (fail15_ok b s f 0 _ 81) (.inl rfl) fun x16 o16 h16 => ?_)
  obtain ⟨rfl, rfl⟩ := h16
  refine Zn ?_
  refine J.cond (.tmp rfl) (fun c1 => ?_) (fun c1 => ?_)
  · skip
    have hk4 : ¬ vk = 4 := by (simp [failE] at c1; exact c1)
    exact Zs (Zq rfl (QW.build (idx := []) pl29 z29 rfl .nil rfl rfl rfl rfl) (JL.store_boxF 0 ty29 (.tmp rfl) rfl (.tmp rfl) rfl rfl rfl rfl (Zn (J.ret (thenQ.r (Zr [.k, .k, .k, .p] (RetEv.one rfl (REv.cell 0 ty29 rfl rfl rfl rfl (.aggL (.cons lr (.cons lr (.cons lr (.cons (.nil false false _) (.cons (.nil false false _) .nil)))))))) rfl (RvR.mk (v := .nil) (ov_bad hk4 _))))))))
  obtain rfl : vk = 4 := by (simp [failE] at c1; exact c1)
  have hz4 : failE 0 ((4 : Int) != 4) 81 = 0 := rfl
  rw [hz4]
  have hov := ovL_eq (o := o) ho (ovG y s) (v := .mk 4 vb vt vks vis) rfl f
  refine Zk (Zs (Zq rfl (QW.move (.tmp rfl)) (Zq rfl (QW.nil_ptr (.tmp rfl)) (Zq rfl (QW.field_ptr fo73_0 (.tmp rfl) rfl) (Zq rfl (QW.field_ptr fo31_2 (.tmp rfl) rfl) (Zq rfl (QW.load_box 3 ty29 (.tmp rfl) rfl (qb_at 2) vl) (JL.alloc z29 rfl rfl fun b9 => JL.store_boxF 0 ty29 (.tmp rfl) rfl (.tmp rfl) rfl vl rfl rfl (Zn ?_))))))))
  refine Zs (Zq rfl (QW.build (idx := [0]) pl29 z29 rfl (.cons .const .nil) rfl rfl rfl rfl) (JL.alloc z29 rfl rfl fun b10 => JL.store_boxF 0 ty29 (.tmp rfl) rfl (.tmp rfl) rfl rfl rfl rfl (Zn (J.seq (Zs (Zq rfl (QW.assign .const) (Zn (J.block ?_))))))))
  refine J.reown (Reown.nilArrE eV _) (J.loopK (ι := Nat × Value × List V × Int × Int × V) [0, 3, 5, 6, 8, 9, 10] (fun ⟨j, v, vs, g, c, it⟩ => [(11, .c (.int .i64 (j : Int)))]) (fun ⟨j, v, vs, g, c, it⟩ oo => List.set (List.set (List.set oo 6 (.arr v eV (V.css false vs))) 0 (.box b10 (outC v))) 5 (qb b { s with it := it } g c)) (fun ⟨j, v, vs, g, c, it⟩ => j ≤ vis.length ∧ vs.length ≤ j ∧ LpP (overE o (ovG y s) (.ok (.mk 4 vb vt vks vis, f))) vs g c (ovL o (ovG y s) (vis.drop j) vs g)) (fun ⟨j, v, vs, g, c, it⟩ => vis.length - j) ⟨0, .slice none 0 0, [], f, 0, s.it⟩ (⟨Nat.zero_le _, Nat.le_refl _, .inl ⟨rfl, (fun _ h => by cases h), h0, hov⟩⟩) (Wk.re (.cons rfl lr (.cons rfl lr (.cons rfl lr (.cons rfl lr (.cons rfl lr (.cons rfl lr (.cons rfl lr (.cons rfl lr .nil)))))))) (Reown.refl _) (fun _ h => by first | exact h | simp [h])) ?_)
  intro ⟨j, v, vs, g, c, it⟩ ⟨hj, hvl, hP⟩
  refine J.conv (by (try simp only [nl, stepsO, valO, nthO, curO, mrg, AV.cellsOf, splice_zero, splice_succ, Nat.reduceAdd]); rfl) ?_
  refine J.seq (Zs (Zq rfl (QW.move (.tmp rfl)) (Zq rfl (QW.field_ptr fo29_4 (.tmp rfl) rfl) (Zq rfl (QW.load_box1 4 ty27 (.tmp rfl) rfl rfl) (Zq rfl (QW.len_slE sl27 (.tmp rfl) wl) (Zq rfl (QW.lss (.tmp rfl) (.tmp rfl)) (Zq rfl (QW.move (.tmp rfl)) (Zg rfl (fun hg => (QW.move (.tmp rfl))) (Zg rfl (fun hg => (QW.nil_ptr (.when rfl hg))) ?_)))))))))
  refine Zg rfl (fun hg => (QW.field_ptr fo73_2 (.when rfl hg) rfl)) (Zg rfl (fun hg => (QW.load_box1 5 ty3 (.when rfl hg) rfl qb_err)) (Zg rfl (fun hg => (QW.eql (.when rfl hg) .const)) (Zq rfl (QW.pick_and (.tmp rfl) (.tmp rfl)) (Zn ?_))))
  refine J.cond (.tmp rfl) (fun c2 => ?_) (fun c2 => ?_)
  · skip
    have hlt : j < vis.length := by (simp [V.css_length] at c2; exact c2.1)
    obtain rfl : c = 0 := by (simp at c2; exact c2.2)
    obtain ⟨hgd, hg, hR⟩ := hP.go
    have hx : vis[j].good := hvg.kid (List.getElem_mem hlt)
    refine Zk (J.seq (J.block (Zs (Zq rfl (QW.move (.tmp rfl)) (Zq rfl (QW.field_ptr fo29_4 (.tmp rfl) rfl) (Zq rfl (QW.load_box1 4 ty27 (.tmp rfl) rfl rfl) (Zq rfl (QW.move (.tmp rfl)) (Zq rfl (QW.index_sl sl27 ty29 rfl (.tmp rfl) (.tmp rfl) rfl (by exact V.css_getE _ hlt)) ?_))))))))
    refine Zq rfl (QW.load_ref ty29 (.tmp rfl) (take_at0 vl rfl) vl) (Zq rfl (QW.nil_ptr (.tmp rfl)) (Zq rfl (QW.field_ptr fo73_0 (.tmp rfl) rfl) (Zq rfl (QW.field_ptr fo31_2 (.tmp rfl) rfl) (JL.store_box 5 ty29 (.tmp rfl) rfl (.tmp rfl) rfl vl (by rw [qb_len]; rfl) qb_setit rfl ?_))))
    refine Zn (J.block (Zs (Zq rfl (QW.move (.tmp rfl)) (Zq rfl (QW.eql (.tmp rfl) .const) (Zq rfl (QW.assign (.tmp rfl)) (Zn ?_))))))
    refine J.cond (.tmp rfl) (fun c3 => ?_) (fun c3 => ?_)
    · skip
      obtain rfl : o = 27 := by simpa using c3
      refine J.regionX mixed (Zf 0 [] rfl (fun _ => QW.field_ptr fo29_4 (.tmp rfl) rfl) (Zo 1 0 [50] rfl (fun _ ho_ => QW.load_box1 0 ty27 (.tmp rfl) ho_ rfl) (Zf 2 [] rfl (fun _ => QW.move (.tmp rfl)) (Zo 3 3 [] rfl (fun _ ho_ => QW.load_box 3 ty25 (.tmp rfl) ho_ (take_at xl rfl) xl) (JX.one 4 [true, true, false, false] rfl (by kernel_rfl) (by kernel_rfl) rfl rfl (by kernel_rfl) rfl fun bs4_ pe_ ex_ => ?_)))))
      refine JL.conv (by (try simp only [vlF, bxF, tkM, lvM, Flt.val, Flt.bx, nx, nl, stepsO, valO, nthO, curO, mrg, AV.cellsOf, splice_zero, splice_succ, Nat.reduceAdd]); rfl) ?_
      refine JL.callRF [.k, .k, .k, .k, .k, .p] gofn34 rfl Lent.nil (fun _ => (.cons (.tmp rfl) (.cons (.tmp rfl) .nil))) (ih y { s with it := vis[j] } g b fr hw hf ⟨hs.st, hs.ev, hx⟩ hg hn) (.inl rfl) fun x54 o54 h54 => ?_
      obtain ⟨v54, f54, c54, hv54, rfl, rfl⟩ := h54
      refine JL.nil ?_
      refine thenQ.n ⟨[_], _, rfl, rfl, rfl, rfl, rfl, Reown.mrgN 7 rfl rfl, ⟨rfl, rfl⟩, ⟨rfl, ⟨trivial, trivial⟩⟩, ?_⟩
      refine JX.conv (S' := [4, 3, 2]) rfl (by (try simp only [lvM]); rfl) (by (try simp only [vlF, bxF, tkM, lvM, Flt.val, Flt.bx, nx, nl, stepsO, valO, nthO, curO, mrg, AV.cellsOf, splice_zero, splice_succ, Nat.reduceAdd]); rfl) ?_
      refine Zf 5 [54] rfl (fun _ => QW.buildSlice (idx := [0]) (xs := [v54.cs false]) sl27 el29 z29 rfl (.cons (.tmp rfl) .nil) rfl rfl rfl rfl rfl (by exact fillOne vl) rfl (allOne vl) rfl) ?_
      refine JX.one 6 [true, true, true] rfl (by kernel_rfl) (by kernel_rfl) rfl rfl (by kernel_rfl) rfl fun bs6_ pe_ ex_ => ?_
      refine JL.conv (by (try simp only [vlF, bxF, tkM, lvM, Flt.val, Flt.bx, nx, nl, stepsO, valO, nthO, curO, mrg, AV.cellsOf, splice_zero, splice_succ, Nat.reduceAdd]); rfl) ?_
      refine JL.append 6 sl27 el29 rfl (.tmp rfl) rfl (srcA_sl sl27 (.tmp rfl)) (by rw [V.css_length]; show (_ + 1) * 80 ≤ _; unfold reach; omega) rfl fun v56 => ?_
      refine JL.nil ?_
      refine thenQ.n ⟨[_], _, rfl, rfl, rfl, rfl, rfl, Reown.tkN 7 rfl, ⟨rfl, rfl⟩, trivial, ?_⟩
      refine JX.conv (S' := [6, 5, 1, 0, 4, 3, 2]) rfl (by (try simp only [lvM]); rfl) (by (try simp only [vlF, bxF, tkM, lvM, Flt.val, Flt.bx, nx, nl, stepsO, valO, nthO, curO, mrg, AV.cellsOf, splice_zero, splice_succ, Nat.reduceAdd]); rfl) ?_
      refine Zf 7 [] rfl (fun _ => QW.field_ptr fo29_4 (.tmp rfl) rfl) (JX.one 8 [true] rfl (by kernel_rfl) (by kernel_rfl) rfl rfl (by kernel_rfl) rfl fun bs8_ pe_ ex_ => ?_)
      refine JL.conv (by (try simp only [vlF, bxF, tkM, lvM, Flt.val, Flt.bx, nx, nl, stepsO, valO, nthO, curO, mrg, AV.cellsOf, splice_zero, splice_succ, Nat.reduceAdd]); rfl) ?_
      refine JL.isSlice 6 rfl fun hs1 => JL.store_box 0 ty27 (.tmp rfl) rfl (.tmp rfl) (by assumption) rfl rfl rfl rfl ?_
      refine JL.nil ?_
      refine thenQ.n ⟨[], _, rfl, rfl, rfl, rfl, rfl, Reown.tkN 7 rfl, trivial, trivial, ?_⟩
      refine JX.conv (S' := [8, 7, 6, 5, 1, 0, 4, 3, 2]) rfl (by (try simp only [lvM]); rfl) (by (try simp only [vlF, bxF, tkM, lvM, Flt.val, Flt.bx, nx, nl, stepsO, valO, nthO, curO, mrg, AV.cellsOf, splice_zero, splice_succ, Nat.reduceAdd]); rfl) ?_
      refine JX.fin (by kernel_rfl) (by kernel_rfl) fun bs_ => ?_
      refine QX.conv (by (try simp only [vlF, bxF, tkM, lvM, Flt.val, Flt.bx, nx, nl, stepsO, valO, nthO, curO, mrg, AV.cellsOf, splice_zero, splice_succ, Nat.reduceAdd]); rfl) ?_
      refine blkQ.n (blkQ.n (thenQ.n (J.region_lit (Zq rfl (QW.move (.tmp rfl)) (Zq rfl (QW.add (.tmp rfl) .const (w64 (by omega))) (Zq rfl (QW.assign (.tmp rfl)) (Zn ?_)))))))
      rw [css_snoc]
      exact ⟨⟨j + 1, v56, vs ++ [v54], f54, c54, vis[j]⟩, ⟨hlt, by simp; omega, ov_27 hlt hgd hR hv54 (fun h => ev_okF (s := { s with it := vis[j] }) hw hf ⟨hs.st, hs.ev, hx⟩ hg (hv54.ok h))⟩, by show vis.length - (j + 1) < vis.length - j; omega, Wk.re (.cons rfl lr (.cons rfl lr (.cons rfl lr (.cons rfl lr (.cons rfl lr (.cons rfl lr (.cons rfl lr (.cons rfl lr .nil)))))))) (Reown.refl _) (fun _ h => by first | exact h | simp [h])⟩
    have n27 : ¬ o = 27 := by simpa using c3
    refine Zs (Zq rfl (QW.move (.tmp rfl)) (Zq rfl (QW.load_box 3 ty25 (.tmp rfl) rfl (take_at xl rfl) xl) (JL.callRF [.k, .k, .k, .k, .k, .p] gofn53 rfl Lent.nil (fun _ => (.cons (.tmp rfl) (.cons (.tmp rfl) .nil))) (truth15_ok (s := { s with it := vis[j] }) (f := g) ih Xc.self hw hf ⟨hs.st, hs.ev, hx⟩ hg hn) (.inl rfl) fun x61 o61 h61 => ?_)))
    obtain ⟨q61, f61, c61, hq61, hqf61, rfl, rfl⟩ := h61
    refine Zq rfl (QW.assign (.tmp rfl)) (Zn ?_)
    refine J.cond (.tmp rfl) (fun c4 => ?_) (fun c4 => ?_)
    · skip
      obtain rfl : q61 = true := c4
      obtain rfl : c61 = 0 := Decidable.byContradiction fun h => by cases hqf61 h
      have hfv := tr_okF (s := { s with it := vis[j] }) hw hf ⟨hs.st, hs.ev, hx⟩ hg (hq61.ok rfl)
      have hN := (ov_n hlt n27 hR hq61).1 rfl
      refine J.seq (Zs (Zq rfl (QW.move (.tmp rfl)) (Zq rfl (QW.eql (.tmp rfl) .const) (Zn ?_))))
      refine J.cond (.tmp rfl) (fun c5 => ?_) (fun c5 => ?_)
      · skip
        obtain rfl : o = 29 := by simpa using c5
        refine Zs (Zq rfl (QW.move (.tmp rfl)) (Zq rfl (QW.load_box 1 ty29 (.tmp rfl) rfl (take_at vl rfl) vl) (Zq rfl (QW.nil_ptr (.tmp rfl)) (Zq rfl (QW.field_ptr fo73_0 (.tmp rfl) rfl) (Zq rfl (QW.field_ptr fo31_2 (.tmp rfl) rfl) (JL.store_box 5 ty29 (.tmp rfl) rfl (.tmp rfl) rfl vl (by rw [qb_len]; rfl) qb_setit rfl ?_))))))
        refine Zn (Zs (Zq rfl (QW.field_ptr fo29_4 (.tmp rfl) rfl) (Zq rfl (QW.load_box1 4 ty27 (.tmp rfl) rfl rfl) (Zq rfl (QW.move (.tmp rfl)) (Zq rfl (QW.index_sl sl27 ty29 rfl (.tmp rfl) (.tmp rfl) rfl (by exact V.css_getE _ hlt)) ?_)))))
        refine Zq rfl (QW.load_ref ty29 (.tmp rfl) (take_at0 vl rfl) vl) (JL.store_boxF 2 ty29 (.tmp rfl) rfl (.tmp rfl) rfl vl rfl rfl (Zn (J.ret (thenQ.r (blkQ.r (blkQ.r (thenQ.r (thenQ.r (blkQ.r ?_)))))))))
        exact thenQ.r (Zr [.k, .k, .k, .k, .k, .p, .k] (RetEv.one rfl (REv.cell 2 ty29 rfl rfl (take_at vl rfl) vl lr)) rfl (RvR.mk (v := vis[j]) (Rok.y hN)))
      have n29 : ¬ o = 29 := by simpa using c5
      rw [if_pos rfl, if_neg n29] at hN
      refine Zk (J.regionX mixed (Zf 0 [] rfl (fun _ => QW.field_ptr fo29_4 (.tmp rfl) rfl) (Zo 1 0 [74] rfl (fun _ ho_ => QW.load_box1 0 ty27 (.tmp rfl) ho_ rfl) (Zf 2 [] rfl (fun _ => QW.field_ptr fo29_4 (.tmp rfl) rfl) (Zo 3 4 [76] rfl (fun _ ho_ => QW.load_box1 4 ty27 (.tmp rfl) ho_ rfl) (Zf 4 [] rfl (fun _ => QW.move (.tmp rfl)) (Zf 5 [77, 78] rfl (fun _ => QW.index_sl sl27 ty29 rfl (.tmp rfl) (.tmp rfl) rfl (by exact V.css_getE _ hlt)) ?_)))))))
      refine Zf 6 [79] rfl (fun _ => QW.load_ref ty29 (.tmp rfl) (take_at0 vl rfl) vl) (Zf 7 [80] rfl (fun _ => QW.buildSlice (idx := [0]) (xs := [(vis[j]).cs false]) (zs := [AV.agg ((vis[j]).cs false)]) sl27 el29 z29 rfl (.cons (.tmp rfl) .nil) rfl rfl rfl rfl rfl (by exact fillOne vl) rfl (allOne vl) rfl) ?_)
      refine JX.one 8 [true, true, true, true, true, true, true, true] rfl (by kernel_rfl) (by kernel_rfl) rfl rfl (by kernel_rfl) rfl fun bs8_ pe_ ex_ => ?_
      refine JL.conv (by (try simp only [vlF, bxF, tkM, lvM, Flt.val, Flt.bx, nx, nl, stepsO, valO, nthO, curO, mrg, AV.cellsOf, splice_zero, splice_succ, Nat.reduceAdd]); rfl) ?_
      refine JL.append 6 sl27 el29 rfl (.tmp rfl) rfl (srcA_sl sl27 (.tmp rfl)) (by rw [V.css_length]; show (_ + 1) * 80 ≤ _; unfold reach; omega) rfl fun v82 => ?_
      refine JL.nil ?_
      refine thenQ.n ⟨[_], _, rfl, rfl, rfl, rfl, rfl, Reown.tkN 7 rfl, ⟨rfl, rfl⟩, trivial, ?_⟩
      refine JX.conv (S' := [8, 7, 6, 5, 4, 3, 2, 1, 0]) rfl (by (try simp only [lvM]); rfl) (by (try simp only [vlF, bxF, tkM, lvM, Flt.val, Flt.bx, nx, nl, stepsO, valO, nthO, curO, mrg, AV.cellsOf, splice_zero, splice_succ, Nat.reduceAdd]); rfl) ?_
      refine Zf 9 [] rfl (fun _ => QW.field_ptr fo29_4 (.tmp rfl) rfl) (JX.one 10 [true] rfl (by kernel_rfl) (by kernel_rfl) rfl rfl (by kernel_rfl) rfl fun bs10_ pe_ ex_ => ?_)
      refine JL.conv (by (try simp only [vlF, bxF, tkM, lvM, Flt.val, Flt.bx, nx, nl, stepsO, valO, nthO, curO, mrg, AV.cellsOf, splice_zero, splice_succ, Nat.reduceAdd]); rfl) ?_
      refine JL.isSlice 6 rfl fun hs1 => JL.store_box 0 ty27 (.tmp rfl) rfl (.tmp rfl) (by assumption) rfl rfl rfl rfl ?_
      refine JL.nil ?_
      refine thenQ.n ⟨[], _, rfl, rfl, rfl, rfl, rfl, Reown.tkN 7 rfl, trivial, trivial, ?_⟩
      refine JX.conv (S' := [10, 9, 8, 7, 6, 5, 4, 3, 2, 1, 0]) rfl (by (try simp only [lvM]); rfl) (by (try simp only [vlF, bxF, tkM, lvM, Flt.val, Flt.bx, nx, nl, stepsO, valO, nthO, curO, mrg, AV.cellsOf, splice_zero, splice_succ, Nat.reduceAdd]); rfl) ?_
      refine JX.fin (by kernel_rfl) (by kernel_rfl) fun bs_ => ?_
      refine QX.conv (by (try simp only [vlF, bxF, tkM, lvM, Flt.val, Flt.bx, nx, nl, stepsO, valO, nthO, curO, mrg, AV.cellsOf, splice_zero, splice_succ, Nat.reduceAdd]); rfl) ?_
      refine blkQ.n (blkQ.n (thenQ.n (J.region_lit (Zq rfl (QW.move (.tmp rfl)) (Zq rfl (QW.add (.tmp rfl) .const (w64 (by omega))) (Zq rfl (QW.assign (.tmp rfl)) (Zn ?_)))))))
      rw [css_snoc]
      exact ⟨⟨j + 1, v82, vs ++ [vis[j]], f61, 0, vis[j]⟩, ⟨hlt, by simp; omega, .inl ⟨rfl, snoc_good hgd hx, hfv, hN⟩⟩, by show vis.length - (j + 1) < vis.length - j; omega, Wk.re (.cons rfl lr (.cons rfl lr (.cons rfl lr (.cons rfl lr (.cons rfl lr (.cons rfl lr (.cons rfl lr (.cons rfl lr .nil)))))))) (Reown.refl _) (fun _ h => by first | exact h | simp [h])⟩
    obtain rfl : q61 = false := by simpa using c4
    have hN := ov_n hlt n27 hR hq61
    refine J.skip (blkQ.n (blkQ.n (thenQ.n (J.region_lit (Zq rfl (QW.move (.tmp rfl)) (Zq rfl (QW.add (.tmp rfl) .const (w64 (by omega))) (Zq rfl (QW.assign (.tmp rfl)) (Zn ?_))))))))
    exact ⟨⟨j + 1, v, vs, f61, c61, vis[j]⟩, ⟨hlt, by omega, by by_cases hc : c61 = 0; exact .inl ⟨hc, hgd, tr_okF (s := { s with it := vis[j] }) hw hf ⟨hs.st, hs.ev, hx⟩ hg (hq61.ok hc), hN.1 hc⟩; exact .inr ⟨hc, hN.2 hc⟩⟩, by show vis.length - (j + 1) < vis.length - j; omega, Wk.re (.cons rfl lr (.cons rfl lr (.cons rfl lr (.cons rfl lr (.cons rfl lr (.cons rfl lr (.cons rfl lr (.cons rfl lr .nil)))))))) (Reown.refl _) (fun _ h => by first | exact h | simp [h])⟩
  have hxx : vis.length ≤ j ∨ ¬ c = 0 := by (simp [V.css_length] at c2; by_cases hj1 : j < vis.length; exact .inr (c2 hj1); exact .inl (by omega))
  refine J.exit (thenQ.x (thenQ.x (blkQ.hit (thenQ.n (Zs (Zq rfl (QW.move (.tmp rfl)) (Zq rfl (QW.load_box 1 ty29 (.tmp rfl) rfl (take_at vl rfl) vl) (Zq rfl (QW.nil_ptr (.tmp rfl)) (Zq rfl (QW.field_ptr fo73_0 (.tmp rfl) rfl) ?_)))))))))
  refine Zq rfl (QW.field_ptr fo31_2 (.tmp rfl) rfl) (JL.store_box 5 ty29 (.tmp rfl) rfl (.tmp rfl) rfl vl (by rw [qb_len]; rfl) qb_setit rfl ?_)
  refine Zn (Zs (Zq rfl (QW.move (.tmp rfl)) (Zq rfl (QW.move (.tmp rfl)) (Zq rfl (QW.eql (.tmp rfl) .const) (JL.callRF [.k, .k, .k, .k, .k, .p] gofn51 rfl Lent.nil (fun _ => (.cons (.tmp rfl) (.cons (.tmp rfl) (.cons .const .nil)))) (fail15_ok b s g c _ 71) (.inl rfl) fun x92 o92 h92 => ?_)))))
  obtain ⟨rfl, rfl⟩ := h92
  refine Zn (J.seq ?_)
  have hgood : failE c (o == 29) 71 = 0 → ∀ x ∈ vs, x.good := fun h => by
    by_cases hc : c = 0
    · subst hc; exact hP.go.1
    · rw [failE_k hc] at h; exact absurd h hc
  refine J.closeArr 6 rfl (by rw [V.css_length]; show _ * 80 ≤ _; unfold reach; omega) rfl (fun z hz => by simp only [qb, fps_cons, fps_nil, Own.fp, List.append_nil, List.mem_singleton] at hz; subst hz; simp [qb, mrg, fps_cons, Own.fp]) ?_
  refine J.region_lit (Zq rfl (QW.move (.tmp rfl)) (Zq rfl (QW.load_box 0 ty29 (.tmp rfl) rfl rfl rfl) (JL.callRF [.k, .k, .k, .k, .k, .p] gofn55 rfl Lent.nil (fun _ => (.cons (.tmp rfl) (.cons (Ev.le (.tmp rfl) (.aggL (.cons lr (.cons lr (.cons lr (.cons (.nil false false _) (.cons (.fact (by simp) (.slL (fr := true) (clip := false) (fun h => by cases h) rfl (V.css_sz false _) (.refl _))) .nil))))))) .nil))) (made15_ok (fr := false) (v := .li vs) (s := s) (f := g) (e := failE c (o == 29) 71) Vc.self (fun h => li_wf32 (hgood h) (by omega))) (.inl rfl) fun x95 o95 h95 => ?_)))
  obtain ⟨rfl, rfl⟩ := h95
  exact JL.store_boxF 2 ty29 (.tmp rfl) rfl (.tmp rfl) rfl rfl rfl rfl (Zn (J.ret (Zr [.k, .k, .k, .k, .k, .p] (RetEv.one rfl (REv.cell 2 ty29 rfl rfl rfl rfl lr)) rfl (RvR.mk (v := .li vs) (ov_done hxx hP)))))
end Go.Proofs.YtjhonjdhanlbkaaGreat.J

/- Walks: what the page reckons of one value, and of two. -/
namespace Go.Proofs.YtjhonjdhanlbkaaGreat.J
open Go Go.RowKit
set_option maxRecDepth 10000
set_option maxHeartbeats 4000000
theorem f_y {B : Bool} {c : Int} (h : B = true) : failE 0 B c = c := by rw [h]; rfl
theorem f_cond {B : Bool} {c : Int} (hc : ¬ c = 0) : (failE 0 B c != 0) = B := by
  cases B with
  | false => rfl
  | true => show (c != 0) = true; simpa using hc
theorem f_n {e : Int} {B : Bool} {c : Int} (h : B = false) : failE e B c = e := by rw [h]; exact failE_n
theorem one_10 (t : Str) (a : V) : oneE 10 t a = if a.kind < 3 then .error 81 else .ok (.nu (ofN ((a.items.length : Int) + (a.text.length : Int)))) := by
  rw [Int.add_comm]; rfl
theorem one_15 (t : Str) (a : V) : oneE 15 t a = if a.kind ≠ 2 then .error 81 else .ok (.nu (floorC a.bits)) := by
  show (if a.kind = 2 then _ else _) = _
  by_cases h : a.kind = 2 <;> simp [h]
theorem one_20 (t : Str) (a : V) : oneE 20 t a = if a.kind ≠ 1 then .error 81 else .ok (.tr (a.bits == 0)) := by
  show (if a.kind = 1 then _ else _) = _
  by_cases h : a.kind = 1 <;> simp [h]
theorem one_26 (t : Str) {k : Int} {u : Nat} {x : Str} {ks : List Str} {is : List V} : Rok (oneE 26 t (.mk k u x ks is)) (.tx (if intE u = 0 then intD (intV u) else [])) (failE (failE 0 (k != 2) 81) ((if intE u = 0 then (0 : Int) else 7) != 0) (if intE u = 0 then (0 : Int) else 7)) := by
  have h0 : oneE 26 t (.mk k u x ks is) = if k ≠ 2 then .error 81 else if intE u ≠ 0 then .error 7 else .ok (.tx (intD (intV u))) := rfl
  rw [h0]
  by_cases hk : k = 2
  · rw [if_neg (fun h => h hk), f_n (B := (k != 2)) (by simp [hk])]
    by_cases hi : intE u = 0
    · simp only [hi, if_true]; exact .inl ⟨rfl, if_neg (fun h => h rfl)⟩
    · simp only [hi, if_false]; exact .inr ⟨by decide, if_pos hi⟩
  · rw [if_pos hk, f_y (B := (k != 2)) (by simp [hk]), failE_k (by decide)]; exact .inr ⟨by decide, rfl⟩
theorem two_17 (t : Str) (a b : V) : twoE 17 t a b = if a.kind ≠ b.kind then .error 81 else .ok (.tr (decide (a.ord b < 0))) := by
  show (if b.kind = a.kind then _ else _) = _
  by_cases h : b.kind = a.kind
  · rw [if_pos h, if_neg (fun h1 => h1 h.symm)]
  · rw [if_neg h, if_pos (fun h1 => h h1.symm)]
theorem two_24 (t : Str) {a b : V} {B C : Bool} (ha : a.good) (hb : b.good) (h : B = true ↔ a.kind ≠ 4) (h2 : C = true ↔ 32 ≤ a.items.length) : Rok (twoE 24 t a b) (.li (a.items ++ [b])) (failE (failE (failE 0 B 81) C 84) (decide ((V.li (a.items ++ [b])).err ≠ 0)) 84) := by
  have h0 : twoE 24 t a b = if a.kind ≠ 4 then .error 81 else setE a ⟨false, [], a.items.length⟩ b := rfl
  rw [h0]
  by_cases hk : a.kind = 4
  · rw [if_neg (fun h1 => h1 hk), f_n (B := B) (Bool.eq_false_iff.2 fun hb => h.1 hb hk)]; exact Rok.made h2 ha hb hk
  · rw [if_pos hk, f_y (B := B) (h.2 hk), failE_k (e := 81) (by decide), failE_k (e := 81) (by decide)]; exact .inr ⟨by decide, rfl⟩
theorem two_9b (t : Str) {ua uc : Nat} {ta tc : Str} {va vc : List Str} {ia ic : List V} (ha : (V.mk 4 ua ta va ia).good) (h : intE uc ≠ 0 ∨ intV uc < 0 ∨ (ia.length : Int) ≤ intV uc) : twoE 9 t (.mk 4 ua ta va ia) (.mk 2 uc tc vc ic) = .error 82 := by
  show (if intE uc ≠ 0 then Except.error 82 else getE (.mk 4 ua ta va ia) ⟨false, [], intV uc⟩) = _
  by_cases hi : intE uc = 0
  · rw [if_neg (fun h => h hi), idx_get ha rfl]; exact if_pos (h.resolve_left (fun h => h hi))
  · rw [if_pos hi]
theorem two_9g (t : Str) {ua uc : Nat} {ta tc : Str} {va vc : List Str} {ia ic : List V} (ha : (V.mk 4 ua ta va ia).good) (h0 : intE uc = 0) {m : Nat} (hm : intV uc = (m : Int)) (h : m < ia.length) : twoE 9 t (.mk 4 ua ta va ia) (.mk 2 uc tc vc ic) = .ok ia[m] := by
  show (if intE uc ≠ 0 then Except.error 82 else getE (.mk 4 ua ta va ia) ⟨false, [], intV uc⟩) = _
  rw [if_neg (fun h => h h0), idx_get ha rfl, hm]
  refine (if_neg (by show ¬ ((m : Int) < 0 ∨ (ia.length : Int) ≤ (m : Int)); omega)).trans ?_
  rw [Int.toNat_natCast, V.kid_eq h]
  rfl
theorem cmp_ord {a c : V} (ha : a.good) (hc : c.good) : (V.cmp a c).1 = a.ord c := by rw [V.cmp, if_neg (by simp [ha.err]), if_neg (by simp [hc.err])]
theorem one_ord (t : Str) {a c : V} (ha : a.good) (hc : c.good) : twoE 16 t a c = .ok (.tr (V.one a c)) := by
  refine (show twoE 16 t a c = .ok (.tr (a.ord c == 0)) from rfl).trans ?_
  rw [V.one, V.cmp, if_neg (by simp [ha.err]), if_neg (by simp [hc.err])]; simp
theorem two_25 (t : Str) {a c : V} (hk : a.kind = 5) : Rok (twoE 25 t a c) (a.setv [⟨true, t, 0⟩] c).1 (failE 0 ((a.setv [⟨true, t, 0⟩] c).2 != 0) 84) := by
  have h0 : twoE 25 t a c = if a.kind ≠ 5 then .error 81 else setE a ⟨true, t, 0⟩ c := rfl
  rw [h0, if_neg (fun h => h hk)]
  by_cases he : (a.setv [⟨true, t, 0⟩] c).2 = 0
  · rw [setE_ok he, f_n (B := ((a.setv [⟨true, t, 0⟩] c).2 != 0)) (by simp [he])]; exact Rok.y rfl
  · rw [setE_er he, f_y (B := ((a.setv [⟨true, t, 0⟩] c).2 != 0)) (by simp [he])]; exact .inr ⟨by decide, rfl⟩
theorem two_ar {o : Int} (ho : o = 11 ∨ o = 12 ∨ o = 13 ∨ o = 14) (t : Str) (a c : V) : twoE o t a c = if a.kind ≠ 2 ∨ c.kind ≠ 2 then .error 81 else .ok (.nu (arO o a.bits c.bits)) := by
  rcases ho with rfl | rfl | rfl | rfl <;> rfl
theorem li_wf33 {l : List V} (hl : ∀ x ∈ l, x.good) (hn : l.length ≤ 33) : (V.li l).wf := .mk (by decide) (by decide) (by decide) (by decide) (by unfold reach; omega) (fun _ h => by cases h) (fun x hx => (hl x hx).wf)
theorem keys_at {ks : List Str} {j : Nat} (h : j < ks.length) : (keysAV ks)[j]? = some [AV.c (str ks[j])] := by simp [keysAV, h]
theorem one15_ok {o : Int} {bb : Nat} {t : Str} {args : List EX} {a : V} {s : ScT} {f : Int} {b : Nat} {fr : Bool} {ys : List AV} (he : Xc fr (.mk o bb t args) ys) (ha : a.good) (ho : o = 8 ∨ o = 10 ∨ o = 15 ∨ o = 20 ∨ o = 26) :
    AC Tryz.prog 57 [qb b s f 0] [pb b, .agg ys, .agg (a.cs false)] (RvO (oneE o t a) b s f) := by
  subst he
  have ha32 := ha.len
  have hat := partOk_txt ha.fine.part
  have hbt := ha.bits
  obtain ⟨ka, ua, ta, va, ia⟩ := a
  simp only [V.text, V.items, V.bits] at ha32 hat hbt
  refine AC.of_J Tryz.func57 rfl Tryz.ntmps57 rfl fun w0 A0 => ?_
  refine Zs (JL.box_agg (.tmp rfl) rfl fun b4 => JL.box_agg (.tmp rfl) rfl fun b5 => JL.alloc z29 rfl rfl fun b6 => Zn (J.seq (Zs (Zq rfl (QW.field_ptr fo25_0 (.tmp rfl) rfl) (Zq rfl (QW.load_box1 2 ty3 (.tmp rfl) rfl rfl) (Zn ?_))))))
  refine J.block (Zs (Zq rfl (QW.eql (.tmp rfl) .const) (Zq rfl (QW.assign (.tmp rfl)) (Zn ?_))))
  refine J.cond (.tmp rfl) (fun c1 => ?_) (fun c1 => ?_)
  · skip
    obtain rfl : o = 8 := by simpa using c1
    refine J.seq (Zs (Zq rfl (QW.move (.tmp rfl)) (Zq rfl (QW.field_ptr fo29_0 (.tmp rfl) rfl) (Zq rfl (QW.load_box1 1 ty3 (.tmp rfl) rfl rfl) (Zq rfl (QW.neq (.tmp rfl) .const) (JL.callRF [.k, .k, .k, .p] gofn51 rfl Lent.nil (fun _ => (.cons (.tmp rfl) (.cons (.tmp rfl) (.cons .const .nil)))) (fail15_ok b s f _ _ 81) (.inl rfl) fun x20 o20 h20 => ?_))))))
    obtain ⟨rfl, rfl⟩ := h20
    refine Zn ?_
    refine J.cond (.tmp rfl) (fun c2 => ?_) (fun c2 => ?_)
    · skip
      have hk : ¬ ka = 5 := by (simp [failE] at c2; exact c2)
      exact Zs (Zq rfl (QW.load_box 1 ty29 (.tmp rfl) rfl rfl rfl) (JL.store_boxF 0 ty29 (.tmp rfl) rfl (.tmp rfl) rfl rfl rfl rfl (Zn (J.ret (thenQ.r (blkQ.r (thenQ.r (Zr [.k, .k, .k, .p] (RetEv.one rfl (REv.cell 0 ty29 rfl rfl rfl rfl lr)) rfl (RvO.mk (v := .mk ka ua ta va ia) (by rw [f_y (B := (ka != 5)) (by simp [hk])]; exact .inr ⟨by decide, rec_no ha.err hk t⟩))))))))))
    obtain rfl : ka = 5 := by (simp [failE] at c2; exact c2)
    rw [show failE 0 ((5 : Int) != 5) 81 = 0 from rfl]
    have hkl : va.length = ia.length := (partOk_rec ha.fine.part rfl).1
    refine Zk (J.seq (Zs (Zq rfl (QW.assign .const) (Zn (J.block (J.loopK (ι := Nat) [0, 4, 5, 6] (fun j => [(7, .c (.int .i64 (j : Int)))]) (fun _ oo => oo) (fun j => j ≤ va.length ∧ ∀ i (h : i < va.length), i < j → ¬ va[i] = t) (fun j => va.length - j) 0 (⟨Nat.zero_le _, fun i h hi => by omega⟩) (Wk.re (.cons rfl lr (.cons rfl lr (.cons rfl lr (.cons rfl lr (.cons rfl lr .nil))))) (Reown.refl _) (fun _ h => by first | exact h | simp [h])) ?_))))))
    intro j ⟨hj, hmiss⟩
    refine J.conv (by (try simp only [nl, stepsO, valO, nthO, curO, mrg, AV.cellsOf, splice_zero, splice_succ, Nat.reduceAdd]); rfl) ?_
    refine J.seq (Zs (Zq rfl (QW.move (.tmp rfl)) (Zq rfl (QW.field_ptr fo29_3 (.tmp rfl) rfl) (Zq rfl (QW.load_box1 1 ty26 (.tmp rfl) rfl rfl) (Zq rfl (QW.len_slE sl26 (.tmp rfl) (List.length_map _)) (Zq rfl (QW.lss (.tmp rfl) (.tmp rfl)) (Zn ?_)))))))
    refine J.cond (.tmp rfl) (fun c3 => ?_) (fun c3 => ?_)
    · skip
      have hlt : j < va.length := by simpa [keysAV] using c3
      have hli : j < ia.length := by omega
      refine Zk (J.seq (J.block (J.seq (J.regionX mixed (Zf 0 [] rfl (fun _ => QW.field_ptr fo29_3 (.tmp rfl) rfl) (Zo 1 1 [29] rfl (fun _ ho_ => QW.load_box1 1 ty26 (.tmp rfl) ho_ rfl) (Zf 2 [] rfl (fun _ => QW.move (.tmp rfl)) (Zf 3 [30, 31] rfl (fun _ => QW.index_sl sl26 ty9 rfl (.tmp rfl) (.tmp rfl) rfl (by exact keys_at hlt)) ?_))))))))
      refine Zf 4 [32] rfl (fun _ => QW.load_ref1 ty9 (.tmp rfl) rfl) (Zf 5 [] rfl (fun _ => QW.field_ptr fo25_2 (.tmp rfl) rfl) (Zo 6 2 [34] rfl (fun _ ho_ => QW.load_box1 2 ty9 (.tmp rfl) ho_ rfl) (Zf 7 [33, 35] rfl (fun _ => QW.eql_s (.tmp rfl) (.tmp rfl)) (JX.fin (by kernel_rfl) (by kernel_rfl) fun bs_ => ?_))))
      refine QX.conv (by (try simp only [vlF, bxF, tkM, lvM, Flt.val, Flt.bx, nx, nl, stepsO, valO, nthO, curO, mrg, AV.cellsOf, splice_zero, splice_succ, Nat.reduceAdd]); rfl) ?_
      refine thenQ.n ?_
      refine J.cond (.tmp rfl) (fun c4 => ?_) (fun c4 => ?_)
      · skip
        have heq : va[j] = t := by simpa using c4
        refine Zs (Zq rfl (QW.field_ptr fo29_4 (.tmp rfl) rfl) (Zq rfl (QW.load_box1 1 ty27 (.tmp rfl) rfl rfl) (Zq rfl (QW.move (.tmp rfl)) (Zq rfl (QW.index_sl sl27 ty29 rfl (.tmp rfl) (.tmp rfl) rfl (by exact V.css_getE _ hli)) ?_))))
        refine Zq rfl (QW.load_ref ty29 (.tmp rfl) (take_at0 vl rfl) vl) (JL.store_boxF 0 ty29 (.tmp rfl) rfl (.tmp rfl) rfl vl rfl rfl (Zn (J.ret (blkQ.r (thenQ.r (thenQ.r (blkQ.r (thenQ.r (blkQ.r ?_)))))))))
        exact thenQ.r (Zr [.k, .k, .k, .p] (RetEv.one rfl (REv.cell 0 ty29 rfl rfl (take_at vl rfl) vl lr)) rfl (RvO.mk (v := ia[j]) (Rok.y (rec_hit ha rfl hlt hli heq))))
      have hne : ¬ va[j] = t := by simpa using c4
      refine J.skip (blkQ.n (thenQ.n (J.region_lit (Zq rfl (QW.move (.tmp rfl)) (Zq rfl (QW.add (.tmp rfl) .const (w64 (by omega))) (Zq rfl (QW.assign (.tmp rfl)) (Zn ?_)))))))
      exact ⟨j + 1, ⟨hlt, fun i h hi => by rcases Nat.lt_succ_iff_lt_or_eq.1 hi with h1 | rfl; exact hmiss i h h1; exact hne⟩, by omega, Wk.re (.cons rfl lr (.cons rfl lr (.cons rfl lr (.cons rfl lr (.cons rfl lr .nil))))) (Reown.refl _) (fun _ h => by first | exact h | simp [h])⟩
    have hge : va.length ≤ j := by simpa [keysAV] using c3
    refine J.exit (thenQ.x (thenQ.x (blkQ.hit (thenQ.n (Zs (Zq rfl (QW.move (.tmp rfl)) (JL.callRF [.k, .k, .k, .p] gofn51 rfl Lent.nil (fun _ => (.cons (.tmp rfl) (.cons .const (.cons .const .nil)))) (fail15_ok b s f _ true 71) (.inl rfl) fun x43 o43 h43 => ?_)))))))
    obtain ⟨rfl, rfl⟩ := h43
    exact Zn (Zs (Zq rfl (QW.load_box 1 ty29 (.tmp rfl) rfl rfl rfl) (JL.store_boxF 0 ty29 (.tmp rfl) rfl (.tmp rfl) rfl rfl rfl rfl (Zn (J.ret (blkQ.r (thenQ.r (Zr [.k, .k, .k, .p] (RetEv.one rfl (REv.cell 0 ty29 rfl rfl rfl rfl lr)) rfl (RvO.mk (v := .mk 5 ua ta va ia) (.inr ⟨by decide, rec_miss ha rfl (fun i h => hmiss i h (Nat.lt_of_lt_of_le h hge))⟩))))))))))
  have n8 : ¬ o = 8 := by simpa using c1
  refine Zs (Zq rfl (QW.eql (.tmp rfl) .const) (Zq rfl (QW.assign (.tmp rfl)) (Zn ?_)))
  refine J.cond (.tmp rfl) (fun c2 => ?_) (fun c2 => ?_)
  · skip
    obtain rfl : o = 10 := by simpa using c2
    refine Zs (Zq rfl (QW.move (.tmp rfl)) (Zq rfl (QW.field_ptr fo29_0 (.tmp rfl) rfl) (Zq rfl (QW.load_box1 1 ty3 (.tmp rfl) rfl rfl) (Zq rfl (QW.lss (.tmp rfl) .const) (JL.callRF [.k, .k, .k, .p] gofn51 rfl Lent.nil (fun _ => (.cons (.tmp rfl) (.cons (.tmp rfl) (.cons .const .nil)))) (fail15_ok b s f _ _ 81) (.inl rfl) fun x51 o51 h51 => ?_)))))
    obtain ⟨rfl, rfl⟩ := h51
    refine Zn (Zs (Zq rfl (QW.field_ptr fo29_4 (.tmp rfl) rfl) (Zq rfl (QW.load_box1 1 ty27 (.tmp rfl) rfl rfl) (Zq rfl (QW.len_slE sl27 (.tmp rfl) wl) (Zq rfl (QW.field_ptr fo29_2 (.tmp rfl) rfl) (Zq rfl (QW.load_box1 1 ty9 (.tmp rfl) rfl rfl) (Zq rfl (QW.len_s st9 (.tmp rfl)) (Zq rfl (QW.add (.tmp rfl) (.tmp rfl) (w64 (by omega))) (Zq rfl (QW.call gofn78 (.cons (.tmp rfl) .nil) (rofInt_ok _ (by omega))) ?_)))))))))
    refine Zq rfl (QW.move (.tmp rfl)) (Zq rfl (QW.extract (.tmp rfl) rfl) (Zq rfl (QW.extract (.tmp rfl) rfl) (Zq rfl (QW.assign (.tmp rfl)) (Zq rfl (QW.assign (.tmp rfl)) (Zn (Zs (Zq rfl (QW.move (.tmp rfl)) (Zq rfl (QW.build (idx := [0, 1]) pl29 z29 rfl (.cons .const (.cons (.tmp rfl) .nil)) rfl rfl rfl rfl) (JL.store_boxF 0 ty29 (.tmp rfl) rfl (.tmp rfl) rfl rfl rfl rfl ?_)))))))))
    exact Zn (J.ret (blkQ.r (thenQ.r (Zr [.k, .k, .k, .p] (RetEv.one rfl (REv.cell 0 ty29 rfl rfl rfl rfl (.aggL (.cons lr (.cons lr (.cons lr (.cons (.nil false false _) (.cons (.nil false false _) .nil)))))))) rfl (RvO.mk (v := .nu (ofN ((ia.length : Int) + (ta.length : Int)))) (one_10 t (.mk ka ua ta va ia) ▸ Rok.ite (by decide) (by simp [V.kind])))))))
  have n10 : ¬ o = 10 := by simpa using c2
  refine Zs (Zq rfl (QW.eql (.tmp rfl) .const) (Zq rfl (QW.assign (.tmp rfl)) (Zn ?_)))
  refine J.cond (.tmp rfl) (fun c3 => ?_) (fun c3 => ?_)
  · skip
    obtain rfl : o = 15 := by simpa using c3
    refine Zs (Zq rfl (QW.move (.tmp rfl)) (Zq rfl (QW.field_ptr fo29_0 (.tmp rfl) rfl) (Zq rfl (QW.load_box1 1 ty3 (.tmp rfl) rfl rfl) (Zq rfl (QW.neq (.tmp rfl) .const) (JL.callRF [.k, .k, .k, .p] gofn51 rfl Lent.nil (fun _ => (.cons (.tmp rfl) (.cons (.tmp rfl) (.cons .const .nil)))) (fail15_ok b s f _ _ 81) (.inl rfl) fun x71 o71 h71 => ?_)))))
    obtain ⟨rfl, rfl⟩ := h71
    refine Zn (Zs (Zq rfl (QW.field_ptr fo29_1 (.tmp rfl) rfl) (Zq rfl (QW.load_box1 1 ty22 (.tmp rfl) rfl rfl) (Zq rfl (QW.call gofn79 (.cons (.tmp rfl) .nil) (rfloor_ok _ hbt)) (Zq rfl (QW.build (idx := [0, 1]) pl29 z29 rfl (.cons .const (.cons (.tmp rfl) .nil)) rfl rfl rfl rfl) (JL.store_boxF 0 ty29 (.tmp rfl) rfl (.tmp rfl) rfl rfl rfl rfl (Zn (J.ret (blkQ.r ?_)))))))))
    exact thenQ.r (Zr [.k, .k, .k, .p] (RetEv.one rfl (REv.cell 0 ty29 rfl rfl rfl rfl (.aggL (.cons lr (.cons lr (.cons lr (.cons (.nil false false _) (.cons (.nil false false _) .nil)))))))) rfl (RvO.mk (v := .nu (floorC ua)) (one_15 t (.mk ka ua ta va ia) ▸ Rok.ite (by decide) (by simp [V.kind]))))
  have n15 : ¬ o = 15 := by simpa using c3
  refine Zs (Zq rfl (QW.eql (.tmp rfl) .const) (Zq rfl (QW.assign (.tmp rfl)) (Zn ?_)))
  refine J.cond (.tmp rfl) (fun c4 => ?_) (fun c4 => ?_)
  · skip
    obtain rfl : o = 20 := by simpa using c4
    refine Zs (Zq rfl (QW.move (.tmp rfl)) (Zq rfl (QW.field_ptr fo29_0 (.tmp rfl) rfl) (Zq rfl (QW.load_box1 1 ty3 (.tmp rfl) rfl rfl) (Zq rfl (QW.neq (.tmp rfl) .const) (JL.callRF [.k, .k, .k, .p] gofn51 rfl Lent.nil (fun _ => (.cons (.tmp rfl) (.cons (.tmp rfl) (.cons .const .nil)))) (fail15_ok b s f _ _ 81) (.inl rfl) fun x82 o82 h82 => ?_)))))
    obtain ⟨rfl, rfl⟩ := h82
    refine Zn (Zs (Zq rfl (QW.field_ptr fo29_1 (.tmp rfl) rfl) (Zq rfl (QW.load_box1 1 ty22 (.tmp rfl) rfl rfl) (Zq rfl ((QW.eql (.tmp rfl) .const).conv (show _ = AV.c (.bool (ua == 0)) by rw [show ((ua : Int) == 0) = (ua == 0) by rw [Bool.eq_iff_iff]; simp])) ?_))))
    exact Zq rfl (QW.call gofn52 (.cons (.tmp rfl) .nil) (rtr_ok _)) (JL.store_boxF 0 ty29 (.tmp rfl) rfl (.tmp rfl) rfl rfl rfl rfl (Zn (J.ret (blkQ.r (thenQ.r (Zr [.k, .k, .k, .p] (RetEv.one rfl (REv.cell 0 ty29 rfl rfl rfl rfl lr)) rfl (RvO.mk (v := .tr (ua == 0)) (one_20 t (.mk ka ua ta va ia) ▸ Rok.ite (by decide) (by simp [V.kind])))))))))
  have n20 : ¬ o = 20 := by simpa using c4
  obtain rfl : o = 26 := by omega
  refine J.skip (blkQ.n (thenQ.n (Zs (Zq rfl (QW.move (.tmp rfl)) (Zq rfl (QW.field_ptr fo29_0 (.tmp rfl) rfl) (Zq rfl (QW.load_box1 1 ty3 (.tmp rfl) rfl rfl) (Zq rfl (QW.neq (.tmp rfl) .const) (JL.callRF [.k, .k, .k, .p] gofn51 rfl Lent.nil (fun _ => (.cons (.tmp rfl) (.cons (.tmp rfl) (.cons .const .nil)))) (fail15_ok b s f _ _ 81) (.inl rfl) fun x91 o91 h91 => ?_))))))))
  obtain ⟨rfl, rfl⟩ := h91
  refine Zn (Zs (Zq rfl (QW.field_ptr fo29_1 (.tmp rfl) rfl) (Zq rfl (QW.load_box1 1 ty22 (.tmp rfl) rfl rfl) (Zq rfl (QW.call gofn80 (.cons (.tmp rfl) .nil) (rdigits_ok _ hbt)) (Zq rfl (QW.move (.tmp rfl)) (Zq rfl (QW.extract (.tmp rfl) rfl) (Zq rfl (QW.extract (.tmp rfl) rfl) (Zq rfl (QW.assign (.tmp rfl)) (Zq rfl (QW.assign (.tmp rfl)) ?_)))))))))
  refine Zn (Zs (Zq rfl (QW.move (.tmp rfl)) (Zq rfl (QW.move (.tmp rfl)) (Zq rfl (QW.neq (.tmp rfl) .const) (Zq rfl (QW.move (.tmp rfl)) (JL.callRF [.k, .k, .k, .p] gofn51 rfl Lent.nil (fun _ => (.cons (.tmp rfl) (.cons (.tmp rfl) (.cons (.tmp rfl) .nil)))) (fail15_ok b s f _ _ _) (.inl rfl) fun x102 o102 h102 => ?_))))))
  obtain ⟨rfl, rfl⟩ := h102
  exact Zn (Zs (Zq rfl (QW.move (.tmp rfl)) (Zq rfl (QW.build (idx := [0, 2]) pl29 z29 rfl (.cons .const (.cons (.tmp rfl) .nil)) rfl rfl rfl rfl) (JL.store_boxF 0 ty29 (.tmp rfl) rfl (.tmp rfl) rfl rfl rfl rfl (Zn (J.ret (Zr [.k, .k, .k, .p] (RetEv.one rfl (REv.cell 0 ty29 rfl rfl rfl rfl (.aggL (.cons lr (.cons lr (.cons lr (.cons (.nil false false _) (.cons (.nil false false _) .nil)))))))) rfl (RvO.mk (one_26 t)))))))))
theorem two15_ok {o : Int} {bb : Nat} {t : Str} {args : List EX} {a c : V} {s : ScT} {f : Int} {b : Nat} {fr : Bool} {ys : List AV} (he : Xc fr (.mk o bb t args) ys) (ht : t.length ≤ reach) (ha : a.good) (hc : c.good) (ho : o = 9 ∨ o = 11 ∨ o = 12 ∨ o = 13 ∨ o = 14 ∨ o = 16 ∨ o = 17 ∨ o = 22 ∨ o = 24 ∨ o = 25) :
    AC Tryz.prog 58 [qb b s f 0] [pb b, .agg ys, .agg (a.cs false), .agg (c.cs false)] (RvO (twoE o t a c) b s f) := by
  subst he
  have ha32 := ha.len
  have hat := partOk_txt ha.fine.part
  have hct := partOk_txt hc.fine.part
  have hcb := hc.bits
  have hsnoc := snoc_good (fun x hx => ha.kid hx) hc
  obtain ⟨ka, ua, ta, va, ia⟩ := a
  obtain ⟨kc, uc, tc, vc, ic⟩ := c
  simp only [V.text, V.items, V.bits] at ha32 hat hct hcb hsnoc
  refine AC.of_J Tryz.func58 rfl Tryz.ntmps58 rfl fun w0 A0 => ?_
  refine Zs (JL.box_agg (.tmp rfl) rfl fun b5 => JL.box_agg (.tmp rfl) rfl fun b6 => JL.box_agg (.tmp rfl) rfl fun b7 => JL.alloc z29 rfl rfl fun b8 => Zn (J.seq (Zs (Zq rfl (QW.field_ptr fo25_0 (.tmp rfl) rfl) (Zq rfl (QW.load_box1 3 ty3 (.tmp rfl) rfl rfl) ?_)))))
  refine Zn (J.block (Zs (Zq rfl (QW.eql (.tmp rfl) .const) (Zq rfl (QW.assign (.tmp rfl)) (Zn ?_)))))
  refine J.cond (.tmp rfl) (fun c1 => ?_) (fun c1 => ?_)
  · skip
    obtain rfl : o = 9 := by simpa using c1
    refine J.seq (Zs (Zq rfl (QW.move (.tmp rfl)) (Zq rfl (QW.field_ptr fo29_0 (.tmp rfl) rfl) (Zq rfl (QW.load_box1 2 ty3 (.tmp rfl) rfl rfl) (Zq rfl (QW.neq (.tmp rfl) .const) (Zq rfl (QW.move (.tmp rfl)) (Zg rfl (fun hg => (QW.field_ptr fo29_0 (.tmp rfl) rfl)) (Zg rfl (fun hg => (QW.load_box1 1 ty3 (.when rfl hg) rfl rfl)) (Zg rfl (fun hg => (QW.neq (.when rfl hg) .const)) ?_)))))))))
    refine Zq rfl (QW.pick_or (.tmp rfl) (.tmp rfl)) (JL.callRF [.k, .k, .k, .k, .p] gofn51 rfl Lent.nil (fun _ => (.cons (.tmp rfl) (.cons (.tmp rfl) (.cons .const .nil)))) (fail15_ok b s f _ _ 81) (.inl rfl) fun x29 o29 h29 => ?_)
    obtain ⟨rfl, rfl⟩ := h29
    refine Zn ?_
    refine J.cond (.tmp rfl) (fun c2 => ?_) (fun c2 => ?_)
    · skip
      have hk : ka ≠ 4 ∨ kc ≠ 2 := by (simp [failE] at c2; by_cases h4 : ka = 4; exact .inr (c2 h4); exact .inl h4)
      exact Zs (Zq rfl (QW.load_box 2 ty29 (.tmp rfl) rfl rfl rfl) (JL.store_boxF 0 ty29 (.tmp rfl) rfl (.tmp rfl) rfl rfl rfl rfl (Zn (J.ret (thenQ.r (blkQ.r (thenQ.r (Zr [.k, .k, .k, .k, .p] (RetEv.one rfl (REv.cell 0 ty29 rfl rfl rfl rfl lr)) rfl (RvO.mk (v := .mk ka ua ta va ia) (by rw [f_y (B := (ka != 4 || kc != 2)) (by simpa using hk)]; exact .inr ⟨by decide, if_pos hk⟩))))))))))
    have hk : ka = 4 ∧ kc = 2 := by (simp [failE] at c2; exact c2)
    obtain ⟨rfl, rfl⟩ := hk
    rw [show failE 0 ((4 : Int) != 4 || (2 : Int) != 2) 81 = 0 from rfl]
    refine Zk (Zs (Zq rfl (QW.field_ptr fo29_1 (.tmp rfl) rfl) (Zq rfl (QW.load_box1 1 ty22 (.tmp rfl) rfl rfl) (Zq rfl (QW.call gofn81 (.cons (.tmp rfl) .nil) (rint_ok _ hcb)) (Zq rfl (QW.move (.tmp rfl)) (Zq rfl (QW.extract (.tmp rfl) rfl) (Zq rfl (QW.extract (.tmp rfl) rfl) (Zq rfl (QW.assign (.tmp rfl)) (Zq rfl (QW.assign (.tmp rfl)) ?_)))))))))
    refine Zn (J.seq (Zs (Zq rfl (QW.move (.tmp rfl)) (Zq rfl (QW.move (.tmp rfl)) (Zq rfl (QW.neq (.tmp rfl) .const) (Zq rfl (QW.move (.tmp rfl)) (Zg rfl (fun hg => (QW.move (.tmp rfl))) (Zg rfl (fun hg => (QW.lss (.when rfl hg) .const)) (Zq rfl (QW.pick_or (.tmp rfl) (.tmp rfl)) ?_)))))))))
    refine Zq rfl (QW.move (.tmp rfl)) (Zg rfl (fun hg => (QW.move (.tmp rfl))) (Zg rfl (fun hg => (QW.field_ptr fo29_4 (.tmp rfl) rfl)) (Zg rfl (fun hg => (QW.load_box1 2 ty27 (.when rfl hg) rfl rfl)) (Zg rfl (fun hg => (QW.len_slE sl27 (.when rfl hg) wl)) (Zg rfl (fun hg => (QW.geq (.when rfl hg) (.when rfl hg))) (Zq rfl (QW.pick_or (.tmp rfl) (.tmp rfl)) (JL.callRF [.k, .k, .k, .k, .p] gofn51 rfl Lent.nil (fun _ => (.cons (.tmp rfl) (.cons (.tmp rfl) (.cons .const .nil)))) (fail15_ok b s f _ _ 82) (.inl rfl) fun x51 o51 h51 => ?_)))))))
    obtain ⟨rfl, rfl⟩ := h51
    refine Zn ?_
    refine J.cond (.tmp rfl) (fun c3 => ?_) (fun c3 => ?_)
    · skip
      have hB := (f_cond (c := 82) (by decide)).symm.trans c3
      have hbad : intE uc ≠ 0 ∨ intV uc < 0 ∨ (ia.length : Int) ≤ intV uc := by simpa [or_assoc] using hB
      have hb82 := f_y (c := 82) hB
      exact Zs (Zq rfl (QW.load_box 2 ty29 (.tmp rfl) rfl rfl rfl) (JL.store_boxF 0 ty29 (.tmp rfl) rfl (.tmp rfl) rfl rfl rfl rfl (Zn (J.ret (thenQ.r (blkQ.r (thenQ.r (Zr [.k, .k, .k, .k, .p] (RetEv.one rfl (REv.cell 0 ty29 rfl rfl rfl rfl lr)) rfl (RvO.mk (v := .mk 4 ua ta va ia) (by rw [hb82]; exact .inr ⟨by decide, two_9b t ha hbad⟩))))))))))
    have hB := (f_cond (c := 82) (by decide)).symm.trans c3
    have hb0 := f_n (e := 0) (c := 82) hB
    have hgo : intE uc = 0 ∧ 0 ≤ intV uc ∧ intV uc < (ia.length : Int) := by (simp at hB; omega)
    obtain ⟨hi0, hi1, hi2⟩ := hgo
    obtain ⟨m, hm⟩ : ∃ m : Nat, intV uc = (m : Int) := ⟨(intV uc).toNat, by omega⟩
    have hlt : m < ia.length := by omega
    rw [hb0, hm]
    refine Zk (Zs (Zq rfl (QW.field_ptr fo29_4 (.tmp rfl) rfl) (Zq rfl (QW.load_box1 2 ty27 (.tmp rfl) rfl rfl) (Zq rfl (QW.move (.tmp rfl)) (Zq rfl (QW.index_sl sl27 ty29 rfl (.tmp rfl) (.tmp rfl) rfl (by exact V.css_getE _ hlt)) ?_)))))
    exact Zq rfl (QW.load_ref ty29 (.tmp rfl) (take_at0 vl rfl) vl) (JL.store_boxF 0 ty29 (.tmp rfl) rfl (.tmp rfl) rfl vl rfl rfl (Zn (J.ret (blkQ.r (thenQ.r (Zr [.k, .k, .k, .k, .p] (RetEv.one rfl (REv.cell 0 ty29 rfl rfl (take_at vl rfl) vl lr)) rfl (RvO.mk (v := ia[m]) (Rok.y (two_9g t ha hi0 hm hlt)))))))))
  have n9 : ¬ o = 9 := by simpa using c1
  refine Zs (Zq rfl (QW.eql (.tmp rfl) .const) (Zq rfl (QW.assign (.tmp rfl)) (Zn ?_)))
  refine J.cond (.tmp rfl) (fun c2 => ?_) (fun c2 => ?_)
  · skip
    obtain rfl : o = 16 := by simpa using c2
    exact Zs (Zq rfl (QW.load_box 2 ty29 (.tmp rfl) rfl rfl rfl) (Zq rfl (QW.load_box 1 ty29 (.tmp rfl) rfl rfl rfl) (Zq rfl (QW.call gofn82 (.cons (.tmp rfl) (.cons (.tmp rfl) .nil)) (rvone_ok (v := .mk ka ua ta va ia) (u := .mk kc uc tc vc ic) Vc.self Vc.self ha.wf hc.wf)) (Zq rfl (QW.call gofn52 (.cons (.tmp rfl) .nil) (rtr_ok _)) (JL.store_boxF 0 ty29 (.tmp rfl) rfl (.tmp rfl) rfl rfl rfl rfl (Zn (J.ret (blkQ.r (thenQ.r (Zr [.k, .k, .k, .k, .p] (RetEv.one rfl (REv.cell 0 ty29 rfl rfl rfl rfl lr)) rfl (RvO.mk (v := .tr _) (Rok.y (one_ord t ha hc)))))))))))))
  have n16 : ¬ o = 16 := by simpa using c2
  refine Zs (Zq rfl (QW.eql (.tmp rfl) .const) (Zq rfl (QW.assign (.tmp rfl)) (Zn ?_)))
  refine J.cond (.tmp rfl) (fun c3 => ?_) (fun c3 => ?_)
  · skip
    obtain rfl : o = 17 := by simpa using c3
    refine Zs (Zq rfl (QW.move (.tmp rfl)) (Zq rfl (QW.field_ptr fo29_0 (.tmp rfl) rfl) (Zq rfl (QW.load_box1 2 ty3 (.tmp rfl) rfl rfl) (Zq rfl (QW.field_ptr fo29_0 (.tmp rfl) rfl) (Zq rfl (QW.load_box1 1 ty3 (.tmp rfl) rfl rfl) (Zq rfl (QW.neq (.tmp rfl) (.tmp rfl)) (JL.callRF [.k, .k, .k, .k, .p] gofn51 rfl Lent.nil (fun _ => (.cons (.tmp rfl) (.cons (.tmp rfl) (.cons .const .nil)))) (fail15_ok b s f _ _ 81) (.inl rfl) fun x72 o72 h72 => ?_)))))))
    obtain ⟨rfl, rfl⟩ := h72
    refine Zn (Zs (Zq rfl (QW.load_box 2 ty29 (.tmp rfl) rfl rfl rfl) (Zq rfl (QW.load_box 1 ty29 (.tmp rfl) rfl rfl rfl) (Zq rfl (QW.call gofn83 (.cons (.tmp rfl) (.cons (.tmp rfl) .nil)) (rvcmp_ok (v := .mk ka ua ta va ia) (u := .mk kc uc tc vc ic) Vc.self Vc.self ha.wf hc.wf)) (Zq rfl (QW.move (.tmp rfl)) (Zq rfl (QW.extract (.tmp rfl) rfl) (Zq rfl (QW.extract (.tmp rfl) rfl) (Zq rfl (QW.assign (.tmp rfl)) (Zq rfl (QW.assign (.tmp rfl)) ?_)))))))))
    refine Zn (Zs (Zq rfl (QW.move (.tmp rfl)) (Zq rfl (QW.lss (.tmp rfl) .const) (Zq rfl (QW.call gofn52 (.cons (.tmp rfl) .nil) (rtr_ok _)) (JL.store_boxF 0 ty29 (.tmp rfl) rfl (.tmp rfl) rfl rfl rfl rfl (Zn (J.ret (blkQ.r (thenQ.r ?_)))))))))
    rw [cmp_ord ha hc]
    exact Zr [.k, .k, .k, .k, .p] (RetEv.one rfl (REv.cell 0 ty29 rfl rfl rfl rfl lr)) rfl (RvO.mk (v := .tr _) (two_17 t _ _ ▸ Rok.ite (by decide) (by simp [V.kind])))
  have n17 : ¬ o = 17 := by simpa using c3
  refine Zs (Zq rfl (QW.eql (.tmp rfl) .const) (Zq rfl (QW.assign (.tmp rfl)) (Zn ?_)))
  refine J.cond (.tmp rfl) (fun c4 => ?_) (fun c4 => ?_)
  · skip
    obtain rfl : o = 22 := by simpa using c4
    refine Zs (Zq rfl (QW.move (.tmp rfl)) (Zq rfl (QW.field_ptr fo29_0 (.tmp rfl) rfl) (Zq rfl (QW.load_box1 2 ty3 (.tmp rfl) rfl rfl) (Zq rfl (QW.neq (.tmp rfl) .const) (Zq rfl (QW.move (.tmp rfl)) (Zg rfl (fun hg => (QW.field_ptr fo29_0 (.tmp rfl) rfl)) (Zg rfl (fun hg => (QW.load_box1 1 ty3 (.when rfl hg) rfl rfl)) (Zg rfl (fun hg => (QW.neq (.when rfl hg) .const)) (Zq rfl (QW.pick_or (.tmp rfl) (.tmp rfl)) ?_)))))))))
    refine JL.callRF [.k, .k, .k, .k, .p] gofn51 rfl Lent.nil (fun _ => (.cons (.tmp rfl) (.cons (.tmp rfl) (.cons .const .nil)))) (fail15_ok b s f _ _ 81) (.inl rfl) fun x93 o93 h93 => ?_
    obtain ⟨rfl, rfl⟩ := h93
    refine Zn (Zs (Zq rfl (QW.move (.tmp rfl)) (Zq rfl (QW.field_ptr fo29_2 (.tmp rfl) rfl) (Zq rfl (QW.load_box1 2 ty9 (.tmp rfl) rfl rfl) (Zq rfl (QW.len_s st9 (.tmp rfl)) (Zq rfl (QW.field_ptr fo29_2 (.tmp rfl) rfl) (Zq rfl (QW.load_box1 1 ty9 (.tmp rfl) rfl rfl) (Zq rfl (QW.len_s st9 (.tmp rfl)) (Zq rfl (QW.add (.tmp rfl) (.tmp rfl) (w64 (by omega))) ?_)))))))))
    refine Zq rfl (QW.gtr (.tmp rfl) .const) (JL.callRF [.k, .k, .k, .k, .p] gofn51 rfl Lent.nil (fun _ => (.cons (.tmp rfl) (.cons (.tmp rfl) (.cons .const .nil)))) (fail15_ok b s f _ _ 84) (.inl rfl) fun x103 o103 h103 => ?_)
    obtain ⟨rfl, rfl⟩ := h103
    refine Zn (Zs (Zq rfl (QW.field_ptr fo29_2 (.tmp rfl) rfl) (Zq rfl (QW.load_box1 2 ty9 (.tmp rfl) rfl rfl) (Zq rfl (QW.field_ptr fo29_2 (.tmp rfl) rfl) (Zq rfl (QW.load_box1 1 ty9 (.tmp rfl) rfl rfl) (Zq rfl (QW.add_s (.tmp rfl) (.tmp rfl) (by omega)) (Zq rfl (QW.build (idx := [0, 2]) pl29 z29 rfl (.cons .const (.cons (.tmp rfl) .nil)) rfl rfl rfl rfl) (JL.store_boxF 0 ty29 (.tmp rfl) rfl (.tmp rfl) rfl rfl rfl rfl (Zn ?_)))))))))
    exact J.ret (blkQ.r (thenQ.r (Zr [.k, .k, .k, .k, .p] (RetEv.one rfl (REv.cell 0 ty29 rfl rfl rfl rfl (.aggL (.cons lr (.cons lr (.cons lr (.cons (.nil false false _) (.cons (.nil false false _) .nil)))))))) rfl (RvO.mk (v := .tx (ta ++ tc)) (Rok.ite2 (by decide) (by decide) (by simp [V.kind]) (by simp only [V.text, decide_eq_true_eq]; omega))))))
  have n22 : ¬ o = 22 := by simpa using c4
  refine Zs (Zq rfl (QW.eql (.tmp rfl) .const) (Zq rfl (QW.assign (.tmp rfl)) (Zn ?_)))
  refine J.cond (.tmp rfl) (fun c5 => ?_) (fun c5 => ?_)
  · skip
    obtain rfl : o = 24 := by simpa using c5
    refine Zs (Zq rfl (QW.move (.tmp rfl)) (Zq rfl (QW.field_ptr fo29_0 (.tmp rfl) rfl) (Zq rfl (QW.load_box1 2 ty3 (.tmp rfl) rfl rfl) (Zq rfl (QW.neq (.tmp rfl) .const) (JL.callRF [.k, .k, .k, .k, .p] gofn51 rfl Lent.nil (fun _ => (.cons (.tmp rfl) (.cons (.tmp rfl) (.cons .const .nil)))) (fail15_ok b s f _ _ 81) (.inl rfl) fun x116 o116 h116 => ?_)))))
    obtain ⟨rfl, rfl⟩ := h116
    refine Zn (Zs (Zq rfl (QW.move (.tmp rfl)) (Zq rfl (QW.field_ptr fo29_4 (.tmp rfl) rfl) (Zq rfl (QW.load_box1 2 ty27 (.tmp rfl) rfl rfl) (Zq rfl (QW.len_slE sl27 (.tmp rfl) wl) (Zq rfl (QW.geq (.tmp rfl) .const) (JL.callRF [.k, .k, .k, .k, .p] gofn51 rfl Lent.nil (fun _ => (.cons (.tmp rfl) (.cons (.tmp rfl) (.cons .const .nil)))) (fail15_ok b s f _ _ 84) (.inl rfl) fun x122 o122 h122 => ?_)))))))
    obtain ⟨rfl, rfl⟩ := h122
    refine Zn (Zs (Zq rfl (QW.build (idx := [0]) pl29 z29 rfl (.cons .const .nil) rfl rfl rfl rfl) (JL.alloc z29 rfl rfl fun b13 => JL.store_boxF 0 ty29 (.tmp rfl) rfl (.tmp rfl) rfl rfl rfl rfl (Zn (J.seq (J.reown (Reown.nilArrE eV _) (J.region_lit (Zq rfl (QW.field_ptr fo29_4 (.tmp rfl) rfl) ?_))))))))
    refine Zq rfl (QW.load_box1 0 ty27 (.tmp rfl) rfl rfl) (Zq rfl (QW.field_ptr fo29_4 (.tmp rfl) rfl) (Zq rfl (QW.load_box1 3 ty27 (.tmp rfl) rfl rfl) (JL.append 6 sl27 el29 rfl (.tmp rfl) rfl (srcA_sl sl27 (.tmp rfl)) (by rw [V.css_length]; show (0 + _) * 80 ≤ _; unfold reach; omega) rfl fun v128 => ?_)))
    refine Zq rfl (QW.field_ptr fo29_4 (.tmp rfl) rfl) (JL.isSlice 6 rfl fun hs1 => JL.store_box 0 ty27 (.tmp rfl) rfl (.tmp rfl) (by assumption) rfl rfl rfl rfl ?_)
    refine Zn (Zs (Zq rfl (QW.field_ptr fo29_4 (.tmp rfl) rfl) (Zq rfl (QW.load_box1 0 ty27 (.tmp rfl) rfl rfl) (Zq rfl (QW.load_box 2 ty29 (.tmp rfl) rfl rfl rfl) (Zq rfl (QW.buildSlice (idx := [0]) (xs := [V.cs false (.mk kc uc tc vc ic)]) sl27 el29 z29 rfl (.cons (.tmp rfl) .nil) rfl rfl rfl rfl rfl rfl rfl rfl rfl) (JL.append 6 sl27 el29 rfl (.tmp rfl) rfl (srcA_sl sl27 (.tmp rfl)) (by rw [List.nil_append, V.css_length]; show (_ + 1) * 80 ≤ _; unfold reach; omega) rfl fun v134 => ?_))))))
    refine Zq rfl (QW.field_ptr fo29_4 (.tmp rfl) rfl) (JL.isSlice 6 rfl fun hs1 => JL.store_box 0 ty27 (.tmp rfl) rfl (.tmp rfl) (by assumption) rfl rfl rfl rfl ?_)
    refine Zn (J.seq ?_)
    rw [List.nil_append, css_snoc]
    refine J.conv (by (try simp only [nl, stepsO, valO, nthO, curO, mrg, AV.cellsOf, splice_zero, splice_succ, Nat.reduceAdd]); rfl) ?_
    refine J.closeArr 6 rfl (by rw [V.css_length]; simp; show _ * 80 ≤ _; unfold reach; omega) rfl (fun z hz => by simp only [qb, fps_cons, fps_nil, Own.fp, List.append_nil, List.mem_singleton] at hz; subst hz; simp [qb, fps_cons, Own.fp]) ?_
    refine J.region_lit (Zq rfl (QW.move (.tmp rfl)) (Zq rfl (QW.load_box 0 ty29 (.tmp rfl) rfl rfl rfl) (JL.callRF [.k, .k, .k, .k, .k, .p] gofn55 rfl Lent.nil (fun _ => (.cons (.tmp rfl) (.cons (Ev.le (.tmp rfl) (.aggL (.cons lr (.cons lr (.cons lr (.cons (.nil false false _) (.cons (.fact (by (simp; rfl)) (.slL (fr := true) (clip := false) (fun h => by cases h) rfl (V.css_sz false _) (.refl _))) .nil))))))) .nil))) (made15_ok (fr := false) (v := .li (ia ++ [.mk kc uc tc vc ic])) (s := s) (f := f) Vc.self (fun h => li_wf33 hsnoc (by simp; omega))) (.inl rfl) fun x138 o138 h138 => ?_)))
    obtain ⟨rfl, rfl⟩ := h138
    exact JL.store_boxF 1 ty29 (.tmp rfl) rfl (.tmp rfl) rfl rfl rfl rfl (Zn (J.ret (blkQ.r (thenQ.r (Zr [.k, .k, .k, .k, .k, .p] (RetEv.one rfl (REv.cell 1 ty29 rfl rfl rfl rfl lr)) rfl (RvO.mk (v := .li (ia ++ [.mk kc uc tc vc ic])) (two_24 t ha hc (by simp [V.kind]) (by simp only [V.items, decide_eq_true_eq]; omega))))))))
  have n24 : ¬ o = 24 := by simpa using c5
  refine Zs (Zq rfl (QW.eql (.tmp rfl) .const) (Zq rfl (QW.assign (.tmp rfl)) (Zn ?_)))
  refine J.cond (.tmp rfl) (fun c6 => ?_) (fun c6 => ?_)
  · skip
    obtain rfl : o = 25 := by simpa using c6
    refine J.seq (Zs (Zq rfl (QW.move (.tmp rfl)) (Zq rfl (QW.field_ptr fo29_0 (.tmp rfl) rfl) (Zq rfl (QW.load_box1 2 ty3 (.tmp rfl) rfl rfl) (Zq rfl (QW.neq (.tmp rfl) .const) (JL.callRF [.k, .k, .k, .k, .p] gofn51 rfl Lent.nil (fun _ => (.cons (.tmp rfl) (.cons (.tmp rfl) (.cons .const .nil)))) (fail15_ok b s f _ _ 81) (.inl rfl) fun x145 o145 h145 => ?_))))))
    obtain ⟨rfl, rfl⟩ := h145
    refine Zn ?_
    refine J.cond (.tmp rfl) (fun c7 => ?_) (fun c7 => ?_)
    · skip
      have hk : ¬ ka = 5 := by (simp [failE] at c7; exact c7)
      exact Zs (Zq rfl (QW.load_box 2 ty29 (.tmp rfl) rfl rfl rfl) (JL.store_boxF 0 ty29 (.tmp rfl) rfl (.tmp rfl) rfl rfl rfl rfl (Zn (J.ret (thenQ.r (blkQ.r (thenQ.r (Zr [.k, .k, .k, .k, .p] (RetEv.one rfl (REv.cell 0 ty29 rfl rfl rfl rfl lr)) rfl (RvO.mk (v := .mk ka ua ta va ia) (by rw [f_y (B := (ka != 5)) (by simp [hk])]; exact .inr ⟨by decide, if_pos hk⟩))))))))))
    obtain rfl : ka = 5 := by (simp [failE] at c7; exact c7)
    rw [show failE 0 ((5 : Int) != 5) 81 = 0 from rfl]
    refine Zk (Zs (Zq rfl (QW.load_box 2 ty29 (.tmp rfl) rfl rfl rfl) (Zq rfl (QW.field_ptr fo25_2 (.tmp rfl) rfl) (Zq rfl (QW.load_box1 3 ty9 (.tmp rfl) rfl rfl) (Zq rfl (QW.build (idx := [0, 1]) pl120 z120 rfl (.cons .const (.cons (.tmp rfl) .nil)) rfl rfl rfl rfl) (Zq rfl (QW.buildSlice (idx := [0]) (xs := StT.css [⟨true, t, 0⟩]) sl121 el120 z120 rfl (.cons (.tmp rfl) .nil) rfl rfl rfl rfl rfl rfl rfl rfl rfl) (Zq rfl (QW.load_box 1 ty29 (.tmp rfl) rfl rfl rfl) (Zq rfl (QW.call gofn84 (.cons (.tmp rfl) (.cons (.tmp rfl) (.cons (.tmp rfl) .nil))) (rset_ok (v := .mk 5 ua ta va ia) (x := .mk kc uc tc vc ic) (p := [⟨true, t, 0⟩]) Vc.self Vc.self ha.wf hc.wf (step_wf ⟨ht, show (-9223372036854775808 : Int) ≤ 0 ∧ (0 : Int) ≤ 9223372036854775807 by decide⟩))) ?_))))))))
    refine Zq rfl (QW.move (.tmp rfl)) (Zq rfl (QW.extract (.tmp rfl) rfl) (Zq rfl (QW.extract (.tmp rfl) rfl) (JL.alloc z29 rfl rfl fun b14 => JL.store_boxF 0 ty29 (.tmp rfl) rfl (.tmp rfl) rfl vl rfl rfl (Zq rfl (QW.assign (.tmp rfl)) (Zn (Zs (Zq rfl (QW.move (.tmp rfl)) (Zq rfl (QW.move (.tmp rfl)) ?_))))))))
    refine Zq rfl (QW.neq (.tmp rfl) .const) (JL.callRF [.k, .k, .k, .k, .k, .p] gofn51 rfl Lent.nil (fun _ => (.cons (.tmp rfl) (.cons (.tmp rfl) (.cons .const .nil)))) (fail15_ok b s f _ _ 84) (.inl rfl) fun x160 o160 h160 => ?_)
    obtain ⟨rfl, rfl⟩ := h160
    exact Zn (Zs (Zq rfl (QW.load_box 0 ty29 (.tmp rfl) rfl (take_at vl rfl) vl) (JL.store_boxF 1 ty29 (.tmp rfl) rfl (.tmp rfl) rfl vl rfl rfl (Zn (J.ret (blkQ.r (thenQ.r (Zr [.k, .k, .k, .k, .k, .p] (RetEv.one rfl (REv.cell 1 ty29 rfl rfl (take_at vl rfl) vl (V.le_tf _))) rfl (RvO.mk (two_25 t rfl))))))))))
  have n25 : ¬ o = 25 := by simpa using c6
  have har : o = 11 ∨ o = 12 ∨ o = 13 ∨ o = 14 := by omega
  refine J.skip (blkQ.n (thenQ.n (Zs (Zq rfl (QW.move (.tmp rfl)) (Zq rfl (QW.field_ptr fo25_0 (.tmp rfl) rfl) (Zq rfl (QW.load_box1 3 ty3 (.tmp rfl) rfl rfl) (Zq rfl (QW.load_box 2 ty29 (.tmp rfl) rfl rfl rfl) (Zq rfl (QW.load_box 1 ty29 (.tmp rfl) rfl rfl rfl) (JL.callRF [.k, .k, .k, .k, .p] gofn85 rfl Lent.nil (fun _ => (.cons (.tmp rfl) (.cons (.tmp rfl) (.cons (.tmp rfl) (.cons (.tmp rfl) .nil))))) (arith15_ok (a := .mk ka ua ta va ia) (c := .mk kc uc tc vc ic) (s := s) (f := f) har) (.inl rfl) fun x167 o167 h167 => ?_)))))))))
  obtain ⟨v167, c167, hv167, rfl, rfl⟩ := h167
  exact JL.store_boxF 0 ty29 (.tmp rfl) rfl (.tmp rfl) rfl vl rfl rfl (Zn (J.ret (Zr [.k, .k, .k, .k, .p] (RetEv.one rfl (REv.cell 0 ty29 rfl rfl (take_at vl rfl) vl lr)) rfl (RvO.mk (two_ar har t _ _ ▸ hv167)))))
end Go.Proofs.YtjhonjdhanlbkaaGreat.J

/- Walks: the page's machine reckons an expression. -/
namespace Go.Proofs.YtjhonjdhanlbkaaGreat.J
open Go Go.RowKit
set_option maxRecDepth 10000
set_option maxHeartbeats 4000000
theorem ao_r1 {a y : EX} {s : ScT} {f g c : Int} {k q : Bool} (h : Rok (truE (a.ev s f)) (q, g) c) (hx : ¬ c = 0 ∨ q = k) : Rok (EX.evAO k [a, y] s f) (.tr q, g) c := by
  by_cases hc : c = 0
  · obtain rfl := hx.resolve_left (fun h => h hc)
    exact .inl ⟨hc, ao_1 (h.ok hc)⟩
  · exact .inr ⟨hc, ao_er (h.er hc)⟩
theorem ao_r2 {a y : EX} {s : ScT} {f g f2 c : Int} {k q q2 : Bool} (h : Rok (truE (a.ev s f)) (q, g) 0) (hx : ¬ q = k) (h2 : Rok (truE (y.ev s g)) (q2, f2) c) : Rok (EX.evAO k [a, y] s f) (.tr q2, f2) c := by
  have h1 := h.ok rfl
  obtain rfl : q = !k := by cases q <;> cases k <;> simp at hx <;> rfl
  by_cases hc : c = 0
  · exact .inl ⟨hc, ao_3 h1 (h2.ok hc)⟩
  · exact .inr ⟨hc, ao_2 h1 (h2.er hc)⟩
theorem if_r0 {a y z : EX} {s : ScT} {f g c : Int} {q : Bool} {v : V} (h : Rok (truE (a.ev s f)) (q, g) c) (hc : ¬ c = 0) : Rok (EX.evIf [a, y, z] s f) (v, g) c := .inr ⟨hc, if_er (h.er hc)⟩
theorem pl_r {o : Int} {t : Str} {r : ER (List V)} {vs : List V} {g c : Int} {v : V} (h : Rok r (vs, g) 0) (h2 : Rok (plainE o t vs) v c) : Rok (plE o t r) (v, g) c := by
  have h1 := h.ok rfl
  by_cases hc : c = 0
  · exact .inl ⟨hc, plE_ok h1 (h2.ok hc)⟩
  · exact .inr ⟨hc, plE_er h1 (h2.er hc)⟩
theorem pl_n {o : Int} {t : Str} {r : ER (List V)} {vs : List V} {g c : Int} {v : V} (h : Rok r (vs, g) c) (hc : ¬ c = 0) : Rok (plE o t r) (v, g) c := .inr ⟨hc, plE_no (h.er hc)⟩
theorem pl_23 {t : Str} {r : ER (List V)} {vs : List V} {g c : Int} (h : Rok r (vs, g) c) : Rok (plE 23 t r) (.li vs, g) (failE c (decide ((V.li vs).err ≠ 0)) 84) := by
  by_cases hc : c = 0
  · subst hc
    refine pl_r h ?_
    show Rok (madeE (.li vs)) _ _
    unfold madeE
    by_cases he : (V.li vs).err = 0
    · rw [if_pos he, failE_q (by simp [he])]; exact .inl ⟨rfl, rfl⟩
    · rw [if_neg he, failE_p he]; exact .inr ⟨by decide, rfl⟩
  · rw [failE_k hc]; exact pl_n h hc
theorem pl_1 {o : Int} (h : ¬ o = 23) (t : Str) (a : V) : plainE o t [a] = oneE o t a := if_neg h
theorem pl_2 {o : Int} (h : ¬ o = 23) (t : Str) (a b : V) : plainE o t [a, b] = twoE o t a b := if_neg h
theorem ov_r {o : Int} {a y : EX} {s : ScT} {f g c : Int} {v : V} (h : Rok (a.ev s f) (v, g) c) (hc : ¬ c = 0) : Rok (EX.evOv o [a, y] s f) (v, g) c := by
  rw [ev_ov, h.er hc]; exact .inr ⟨hc, rfl⟩
theorem ov_s {o : Int} {a y : EX} {s : ScT} {f g g2 c : Int} {v w : V} (h : Rok (a.ev s f) (v, g) 0) (h2 : Rok (overE o (ovG y s) (.ok (v, g))) (w, g2) c) : Rok (EX.evOv o [a, y] s f) (w, g2) c := by
  rw [ev_ov, h.ok rfl]; exact h2
theorem li_wf8 {l : List V} (hl : ∀ x ∈ l, x.good) (hn : l.length ≤ 8) : (V.li l).wf := li_wf32 hl (by omega)
theorem meval15_n  : ∀ (n : Nat), RvIH n := by
  intro n
  induction n with
  | zero => intro e s f b fr hw hf hs h0 hn; exact absurd hn (by have := EX.sz_pos e; omega)
  | succ n ih =>
    intro e s f b fr hw hf hs h0 hn
    obtain ⟨o, bb, t, l⟩ := e
    obtain ⟨ho0, ho30, hl8, hoa⟩ := EX.ok_args hf.part
    obtain ⟨-, -, htr, hl56, hwl⟩ := hw.inv
    have hfl : ∀ x ∈ l, x.Fine := fun x hx => hf.kid hx
    have hsz : ∀ x ∈ l, x.sz ≤ n := fun x hx => by
      obtain ⟨i, hi, rfl⟩ := List.getElem_of_mem hx
      exact EX.sz_get hn hi
    refine AC.of_J Tryz.func34 rfl Tryz.ntmps34 rfl fun w0 A0 => ?_
    refine Zs (JL.box_agg (.tmp rfl) rfl fun b3 => JL.alloc z29 rfl rfl fun b4 => Zn (J.seq (Zs (Zq rfl (QW.move (.tmp rfl)) (Zq rfl (QW.move (.tmp rfl)) (Zq rfl (QW.nil_ptr (.tmp rfl)) (Zq rfl (QW.field_ptr fo73_1 (.tmp rfl) rfl) ?_)))))))
    refine Zq rfl (QW.load_box1 2 ty3 (.tmp rfl) rfl qb_fuel) (Zq rfl (QW.lss (.tmp rfl) .const) (JL.callRF [.k, .k, .p] gofn51 rfl Lent.nil (fun _ => (.cons (.tmp rfl) (.cons (.tmp rfl) (.cons .const .nil)))) (fail15_ok b s f _ _ 83) (.inl rfl) fun x16 o16 h16 => ?_))
    obtain ⟨rfl, rfl⟩ := h16
    refine Zn ?_
    refine J.cond (.tmp rfl) (fun c1 => ?_) (fun c1 => ?_)
    · skip
      have hlo : f < 1 := by (simp [failE] at c1; omega)
      exact Zs (Zq rfl (QW.build (idx := []) pl29 z29 rfl .nil rfl rfl rfl rfl) (JL.store_boxF 0 ty29 (.tmp rfl) rfl (.tmp rfl) rfl rfl rfl rfl (Zn (J.ret (thenQ.r (Zr [.k, .k, .p] (RetEv.one rfl (REv.cell 0 ty29 rfl rfl rfl rfl (.aggL (.cons lr (.cons lr (.cons lr (.cons (.nil false false _) (.cons (.nil false false _) .nil)))))))) rfl (RvR.mk (v := .nil) (by rw [f_y (B := decide (f < 1)) (decide_eq_true hlo)]; exact .inr ⟨by decide, ev_lo hlo⟩))))))))
    have hlo : ¬ f < 1 := by (simp [failE] at c1; omega)
    have h1 : okF (f - 1) := ⟨by omega, by have := h0.2; omega⟩
    rw [show failE 0 (decide (f < 1)) 83 = 0 from f_n (decide_eq_false hlo)]
    refine Zk (Zs (Zq rfl (QW.move (.tmp rfl)) (Zq rfl (QW.nil_ptr (.tmp rfl)) (Zq rfl (QW.field_ptr fo73_1 (.tmp rfl) rfl) (Zq rfl (QW.load_box1 2 ty3 (.tmp rfl) rfl qb_fuel) (Zq rfl (QW.sub (.tmp rfl) .const (w64 (by have := h0.2; omega))) ?_))))))
    refine Zq rfl (QW.nil_ptr (.tmp rfl)) (Zq rfl (QW.field_ptr fo73_1 (.tmp rfl) rfl) (JL.store_box 2 ty3 (.tmp rfl) rfl (.tmp rfl) rfl rfl (by rw [qb_len]; rfl) qb_setf rfl ?_))
    refine Zn (J.seq (Zs (Zq rfl (QW.field_ptr fo25_0 (.tmp rfl) rfl) (Zq rfl (QW.load_box1 1 ty3 (.tmp rfl) rfl rfl) (Zn (J.block (Zs (Zq rfl (QW.eql (.tmp rfl) .const) (Zq rfl (QW.assign (.tmp rfl)) ?_)))))))))
    refine Zn ?_
    refine J.cond (.tmp rfl) (fun c2 => ?_) (fun c2 => ?_)
    · skip
      obtain rfl : o = 0 := by simpa using c2
      exact Zs (Zq rfl (QW.build (idx := []) pl29 z29 rfl .nil rfl rfl rfl rfl) (JL.store_boxF 0 ty29 (.tmp rfl) rfl (.tmp rfl) rfl rfl rfl rfl (Zn (J.ret (blkQ.r (thenQ.r (Zr [.k, .k, .p] (RetEv.one rfl (REv.cell 0 ty29 rfl rfl rfl rfl (.aggL (.cons lr (.cons lr (.cons lr (.cons (.nil false false _) (.cons (.nil false false _) .nil)))))))) rfl (RvR.mk (v := .nil) (Rok.y (ev_0 hlo))))))))))
    have n0 : ¬ o = 0 := by simpa using c2
    refine J.seq (Zs (Zq rfl (QW.eql (.tmp rfl) .const) (Zq rfl (QW.assign (.tmp rfl)) (Zn ?_))))
    refine J.cond (.tmp rfl) (fun c3 => ?_) (fun c3 => ?_)
    · skip
      obtain rfl : o = 1 := by simpa using c3
      refine Zk ?_
      refine J.cond (.tmp rfl) (fun c4 => ?_) (fun c4 => absurd c4 (by (rw [c3]; decide)))
      exact Zs (Zq rfl (QW.field_ptr fo25_0 (.tmp rfl) rfl) (Zq rfl (QW.load_box1 1 ty3 (.tmp rfl) rfl rfl) (Zq rfl (QW.eql (.tmp rfl) .const) (Zq rfl (QW.call gofn52 (.cons (.tmp rfl) .nil) (rtr_ok _)) (JL.store_boxF 0 ty29 (.tmp rfl) rfl (.tmp rfl) rfl rfl rfl rfl (Zn (J.ret (blkQ.r (thenQ.r (Zr [.k, .k, .p] (RetEv.one rfl (REv.cell 0 ty29 rfl rfl rfl rfl lr)) rfl (RvR.mk (v := .tr false) (Rok.y (ev_1 hlo)))))))))))))
    have n1 : ¬ o = 1 := by simpa using c3
    refine J.region_lit (Zq rfl (QW.eql (.tmp rfl) .const) (Zq rfl (QW.assign (.tmp rfl)) (Zn ?_)))
    refine J.cond (.tmp rfl) (fun c4 => ?_) (fun c4 => ?_)
    · skip
      obtain rfl : o = 2 := by simpa using c4
      exact Zs (Zq rfl (QW.field_ptr fo25_0 (.tmp rfl) rfl) (Zq rfl (QW.load_box1 1 ty3 (.tmp rfl) rfl rfl) (Zq rfl (QW.eql (.tmp rfl) .const) (Zq rfl (QW.call gofn52 (.cons (.tmp rfl) .nil) (rtr_ok _)) (JL.store_boxF 0 ty29 (.tmp rfl) rfl (.tmp rfl) rfl rfl rfl rfl (Zn (J.ret (blkQ.r (thenQ.r (Zr [.k, .k, .p] (RetEv.one rfl (REv.cell 0 ty29 rfl rfl rfl rfl lr)) rfl (RvR.mk (v := .tr true) (Rok.y (ev_2 hlo)))))))))))))
    have n2 : ¬ o = 2 := by simpa using c4
    refine Zs (Zq rfl (QW.eql (.tmp rfl) .const) (Zq rfl (QW.assign (.tmp rfl)) (Zn ?_)))
    refine J.cond (.tmp rfl) (fun c5 => ?_) (fun c5 => ?_)
    · skip
      obtain rfl : o = 3 := by simpa using c5
      exact Zs (Zq rfl (QW.field_ptr fo25_1 (.tmp rfl) rfl) (Zq rfl (QW.load_box1 1 ty22 (.tmp rfl) rfl rfl) (Zq rfl (QW.build (idx := [0, 1]) pl29 z29 rfl (.cons .const (.cons (.tmp rfl) .nil)) rfl rfl rfl rfl) (JL.store_boxF 0 ty29 (.tmp rfl) rfl (.tmp rfl) rfl rfl rfl rfl (Zn (J.ret (blkQ.r (thenQ.r (Zr [.k, .k, .p] (RetEv.one rfl (REv.cell 0 ty29 rfl rfl rfl rfl (.aggL (.cons lr (.cons lr (.cons lr (.cons (.nil false false _) (.cons (.nil false false _) .nil)))))))) rfl (RvR.mk (v := .nu bb) (Rok.y (ev_3 hlo))))))))))))
    have n3 : ¬ o = 3 := by simpa using c5
    refine Zs (Zq rfl (QW.eql (.tmp rfl) .const) (Zq rfl (QW.assign (.tmp rfl)) (Zn ?_)))
    refine J.cond (.tmp rfl) (fun c6 => ?_) (fun c6 => ?_)
    · skip
      obtain rfl : o = 4 := by simpa using c6
      exact Zs (Zq rfl (QW.field_ptr fo25_2 (.tmp rfl) rfl) (Zq rfl (QW.load_box1 1 ty9 (.tmp rfl) rfl rfl) (Zq rfl (QW.build (idx := [0, 2]) pl29 z29 rfl (.cons .const (.cons (.tmp rfl) .nil)) rfl rfl rfl rfl) (JL.store_boxF 0 ty29 (.tmp rfl) rfl (.tmp rfl) rfl rfl rfl rfl (Zn (J.ret (blkQ.r (thenQ.r (Zr [.k, .k, .p] (RetEv.one rfl (REv.cell 0 ty29 rfl rfl rfl rfl (.aggL (.cons lr (.cons lr (.cons lr (.cons (.nil false false _) (.cons (.nil false false _) .nil)))))))) rfl (RvR.mk (v := .tx t) (Rok.y (ev_4 hlo))))))))))))
    have n4 : ¬ o = 4 := by simpa using c6
    refine Zs (Zq rfl (QW.eql (.tmp rfl) .const) (Zq rfl (QW.assign (.tmp rfl)) (Zn ?_)))
    refine J.cond (.tmp rfl) (fun c7 => ?_) (fun c7 => ?_)
    · skip
      obtain rfl : o = 5 := by simpa using c7
      refine Zs (Zq rfl (QW.move (.tmp rfl)) (Zq rfl (QW.nil_ptr (.tmp rfl)) (Zq rfl (QW.field_ptr fo73_0 (.tmp rfl) rfl) (Zq rfl (QW.field_ptr fo31_0 (.tmp rfl) rfl) (Zq rfl (QW.load_box 2 ty29 (.tmp rfl) rfl (qb_at 0) vl) (JL.store_boxF 0 ty29 (.tmp rfl) rfl (.tmp rfl) rfl vl rfl rfl (Zn (J.ret (blkQ.r ?_)))))))))
      exact thenQ.r (Zr [.k, .k, .p] (RetEv.one rfl (REv.cell 0 ty29 rfl rfl (take_at vl rfl) vl lr)) rfl (RvR.mk (v := s.st) (Rok.y (ev_5 hlo))))
    have n5 : ¬ o = 5 := by simpa using c7
    refine Zs (Zq rfl (QW.eql (.tmp rfl) .const) (Zq rfl (QW.assign (.tmp rfl)) (Zn ?_)))
    refine J.cond (.tmp rfl) (fun c8 => ?_) (fun c8 => ?_)
    · skip
      obtain rfl : o = 6 := by simpa using c8
      refine Zs (Zq rfl (QW.move (.tmp rfl)) (Zq rfl (QW.nil_ptr (.tmp rfl)) (Zq rfl (QW.field_ptr fo73_0 (.tmp rfl) rfl) (Zq rfl (QW.field_ptr fo31_1 (.tmp rfl) rfl) (Zq rfl (QW.load_box 2 ty29 (.tmp rfl) rfl (qb_at 1) vl) (JL.store_boxF 0 ty29 (.tmp rfl) rfl (.tmp rfl) rfl vl rfl rfl (Zn (J.ret (blkQ.r ?_)))))))))
      exact thenQ.r (Zr [.k, .k, .p] (RetEv.one rfl (REv.cell 0 ty29 rfl rfl (take_at vl rfl) vl lr)) rfl (RvR.mk (v := s.ev) (Rok.y (ev_6 hlo))))
    have n6 : ¬ o = 6 := by simpa using c8
    refine Zs (Zq rfl (QW.eql (.tmp rfl) .const) (Zq rfl (QW.assign (.tmp rfl)) (Zn ?_)))
    refine J.cond (.tmp rfl) (fun c9 => ?_) (fun c9 => ?_)
    · skip
      obtain rfl : o = 7 := by simpa using c9
      refine Zs (Zq rfl (QW.move (.tmp rfl)) (Zq rfl (QW.nil_ptr (.tmp rfl)) (Zq rfl (QW.field_ptr fo73_0 (.tmp rfl) rfl) (Zq rfl (QW.field_ptr fo31_2 (.tmp rfl) rfl) (Zq rfl (QW.load_box 2 ty29 (.tmp rfl) rfl (qb_at 2) vl) (JL.store_boxF 0 ty29 (.tmp rfl) rfl (.tmp rfl) rfl vl rfl rfl (Zn (J.ret (blkQ.r ?_)))))))))
      exact thenQ.r (Zr [.k, .k, .p] (RetEv.one rfl (REv.cell 0 ty29 rfl rfl (take_at vl rfl) vl lr)) rfl (RvR.mk (v := s.it) (Rok.y (ev_7 hlo))))
    have n7 : ¬ o = 7 := by simpa using c9
    refine J.seq (Zs (Zq rfl (QW.eql (.tmp rfl) .const) (Zq rfl (QW.assign (.tmp rfl)) (Zn ?_))))
    refine J.cond (.tmp rfl) (fun c10 => ?_) (fun c10 => ?_)
    · skip
      obtain rfl : o = 18 := by simpa using c10
      obtain ⟨a, y, rfl⟩ := etwo (l := l) (by omega)
      refine Zk ?_
      refine J.cond (.tmp rfl) (fun c11 => ?_) (fun c11 => absurd c11 (by (rw [c10]; decide)))
      refine Zs (Zq rfl (QW.move (.tmp rfl)) (Zq rfl (QW.field_ptr fo25_3 (.tmp rfl) rfl) (Zq rfl (QW.load_box1 1 ty23 (.tmp rfl) rfl rfl) (Zq rfl (QW.index_sl sl23 ty25 rfl (.tmp rfl) .const rfl (by rfl)) ?_))))
      refine Zq rfl (QW.load_ref ty25 (.tmp rfl) (take_at0 xl rfl) xl) (JL.callRF [.k, .k, .p] gofn53 rfl Lent.nil (fun _ => (.cons (.tmp rfl) (.cons (.tmp rfl) .nil))) (truth15_ok (e := a) (f := f - 1) ih Xc.self (hwl _ (by simp)) (hfl _ (by simp)) hs h1 (hsz _ (by simp))) (.inl rfl) fun x76 o76 h76 => ?_)
      obtain ⟨q76, f76, c76, hq76, hqf76, rfl, rfl⟩ := h76
      refine Zq rfl (QW.assign (.tmp rfl)) (Zn (J.seq (Zs (Zq rfl (QW.move (.tmp rfl)) (Zq rfl (QW.nil_ptr (.tmp rfl)) (Zq rfl (QW.field_ptr fo73_2 (.tmp rfl) rfl) (Zq rfl (QW.load_box1 2 ty3 (.tmp rfl) rfl qb_err) (Zq rfl (QW.neq (.tmp rfl) .const) (Zq rfl (QW.move (.tmp rfl)) ?_)))))))))
      refine Zg rfl (fun hg => (QW.move (.tmp rfl))) (Zg rfl (fun hg => (QW.field_ptr fo25_0 (.tmp rfl) rfl)) (Zg rfl (fun hg => (QW.load_box1 1 ty3 (.when rfl hg) rfl rfl)) (Zg rfl (fun hg => (QW.eql (.when rfl hg) .const)) (Zg rfl (fun hg => (QW.eql_b bo4 (.when rfl hg) (.when rfl hg))) (Zq rfl (QW.pick_or (.tmp rfl) (.tmp rfl)) (Zn ?_))))))
      refine J.cond (.tmp rfl) (fun c12 => ?_) (fun c12 => ?_)
      · skip
        have hx : ¬ c76 = 0 ∨ q76 = false := by (simp at c12 ⊢; exact c12)
        exact Zs (Zq rfl (QW.move (.tmp rfl)) (Zq rfl (QW.call gofn52 (.cons (.tmp rfl) .nil) (rtr_ok _)) (JL.store_boxF 0 ty29 (.tmp rfl) rfl (.tmp rfl) rfl rfl rfl rfl (Zn (J.ret (thenQ.r (blkQ.r (thenQ.r (Zr [.k, .k, .p] (RetEv.one rfl (REv.cell 0 ty29 rfl rfl rfl rfl lr)) rfl (RvR.mk (v := .tr q76) (by rw [ev_18 hlo]; exact ao_r1 hq76 hx)))))))))))
      obtain ⟨rfl, hx⟩ : c76 = 0 ∧ ¬ q76 = false := by (simp at c12 ⊢; exact c12)
      have h2 : okF f76 := tr_okF (hwl _ (by simp)) (hfl _ (by simp)) hs h1 (hq76.ok rfl)
      refine Zk (Zs (Zq rfl (QW.move (.tmp rfl)) (Zq rfl (QW.field_ptr fo25_3 (.tmp rfl) rfl) (Zq rfl (QW.load_box1 1 ty23 (.tmp rfl) rfl rfl) (Zq rfl (QW.index_sl sl23 ty25 rfl (.tmp rfl) .const rfl (by rfl)) ?_)))))
      refine Zq rfl (QW.load_ref ty25 (.tmp rfl) (take_at0 xl rfl) xl) (JL.callRF [.k, .k, .p] gofn53 rfl Lent.nil (fun _ => (.cons (.tmp rfl) (.cons (.tmp rfl) .nil))) (truth15_ok (e := y) (f := f76) ih Xc.self (hwl _ (by simp)) (hfl _ (by simp)) hs h2 (hsz _ (by simp))) (.inl rfl) fun x96 o96 h96 => ?_)
      obtain ⟨q96, f96, c96, hq96, hqf96, rfl, rfl⟩ := h96
      exact Zq rfl (QW.call gofn52 (.cons (.tmp rfl) .nil) (rtr_ok _)) (JL.store_boxF 0 ty29 (.tmp rfl) rfl (.tmp rfl) rfl rfl rfl rfl (Zn (J.ret (blkQ.r (thenQ.r (Zr [.k, .k, .p] (RetEv.one rfl (REv.cell 0 ty29 rfl rfl rfl rfl lr)) rfl (RvR.mk (v := .tr q96) (by rw [ev_18 hlo]; exact ao_r2 hq76 hx hq96))))))))
    have n18 : ¬ o = 18 := by simpa using c10
    refine J.region_lit (Zq rfl (QW.eql (.tmp rfl) .const) (Zq rfl (QW.assign (.tmp rfl)) (Zn ?_)))
    refine J.cond (.tmp rfl) (fun c11 => ?_) (fun c11 => ?_)
    · skip
      obtain rfl : o = 19 := by simpa using c11
      obtain ⟨a, y, rfl⟩ := etwo (l := l) (by omega)
      refine Zs (Zq rfl (QW.move (.tmp rfl)) (Zq rfl (QW.field_ptr fo25_3 (.tmp rfl) rfl) (Zq rfl (QW.load_box1 1 ty23 (.tmp rfl) rfl rfl) (Zq rfl (QW.index_sl sl23 ty25 rfl (.tmp rfl) .const rfl (by rfl)) ?_))))
      refine Zq rfl (QW.load_ref ty25 (.tmp rfl) (take_at0 xl rfl) xl) (JL.callRF [.k, .k, .p] gofn53 rfl Lent.nil (fun _ => (.cons (.tmp rfl) (.cons (.tmp rfl) .nil))) (truth15_ok (e := a) (f := f - 1) ih Xc.self (hwl _ (by simp)) (hfl _ (by simp)) hs h1 (hsz _ (by simp))) (.inl rfl) fun x76 o76 h76 => ?_)
      obtain ⟨q76, f76, c76, hq76, hqf76, rfl, rfl⟩ := h76
      refine Zq rfl (QW.assign (.tmp rfl)) (Zn (J.seq (Zs (Zq rfl (QW.move (.tmp rfl)) (Zq rfl (QW.nil_ptr (.tmp rfl)) (Zq rfl (QW.field_ptr fo73_2 (.tmp rfl) rfl) (Zq rfl (QW.load_box1 2 ty3 (.tmp rfl) rfl qb_err) (Zq rfl (QW.neq (.tmp rfl) .const) (Zq rfl (QW.move (.tmp rfl)) ?_)))))))))
      refine Zg rfl (fun hg => (QW.move (.tmp rfl))) (Zg rfl (fun hg => (QW.field_ptr fo25_0 (.tmp rfl) rfl)) (Zg rfl (fun hg => (QW.load_box1 1 ty3 (.when rfl hg) rfl rfl)) (Zg rfl (fun hg => (QW.eql (.when rfl hg) .const)) (Zg rfl (fun hg => (QW.eql_b bo4 (.when rfl hg) (.when rfl hg))) (Zq rfl (QW.pick_or (.tmp rfl) (.tmp rfl)) (Zn ?_))))))
      refine J.cond (.tmp rfl) (fun c12 => ?_) (fun c12 => ?_)
      · skip
        have hx : ¬ c76 = 0 ∨ q76 = true := by (simp at c12 ⊢; exact c12)
        exact Zs (Zq rfl (QW.move (.tmp rfl)) (Zq rfl (QW.call gofn52 (.cons (.tmp rfl) .nil) (rtr_ok _)) (JL.store_boxF 0 ty29 (.tmp rfl) rfl (.tmp rfl) rfl rfl rfl rfl (Zn (J.ret (thenQ.r (blkQ.r (thenQ.r (Zr [.k, .k, .p] (RetEv.one rfl (REv.cell 0 ty29 rfl rfl rfl rfl lr)) rfl (RvR.mk (v := .tr q76) (by rw [ev_19 hlo]; exact ao_r1 hq76 hx)))))))))))
      obtain ⟨rfl, hx⟩ : c76 = 0 ∧ ¬ q76 = true := by (simp at c12 ⊢; exact c12)
      have h2 : okF f76 := tr_okF (hwl _ (by simp)) (hfl _ (by simp)) hs h1 (hq76.ok rfl)
      refine Zk (Zs (Zq rfl (QW.move (.tmp rfl)) (Zq rfl (QW.field_ptr fo25_3 (.tmp rfl) rfl) (Zq rfl (QW.load_box1 1 ty23 (.tmp rfl) rfl rfl) (Zq rfl (QW.index_sl sl23 ty25 rfl (.tmp rfl) .const rfl (by rfl)) ?_)))))
      refine Zq rfl (QW.load_ref ty25 (.tmp rfl) (take_at0 xl rfl) xl) (JL.callRF [.k, .k, .p] gofn53 rfl Lent.nil (fun _ => (.cons (.tmp rfl) (.cons (.tmp rfl) .nil))) (truth15_ok (e := y) (f := f76) ih Xc.self (hwl _ (by simp)) (hfl _ (by simp)) hs h2 (hsz _ (by simp))) (.inl rfl) fun x96 o96 h96 => ?_)
      obtain ⟨q96, f96, c96, hq96, hqf96, rfl, rfl⟩ := h96
      exact Zq rfl (QW.call gofn52 (.cons (.tmp rfl) .nil) (rtr_ok _)) (JL.store_boxF 0 ty29 (.tmp rfl) rfl (.tmp rfl) rfl rfl rfl rfl (Zn (J.ret (blkQ.r (thenQ.r (Zr [.k, .k, .p] (RetEv.one rfl (REv.cell 0 ty29 rfl rfl rfl rfl lr)) rfl (RvR.mk (v := .tr q96) (by rw [ev_19 hlo]; exact ao_r2 hq76 hx hq96))))))))
    have n19 : ¬ o = 19 := by simpa using c11
    refine Zs (Zq rfl (QW.eql (.tmp rfl) .const) (Zq rfl (QW.assign (.tmp rfl)) (Zn ?_)))
    refine J.cond (.tmp rfl) (fun c12 => ?_) (fun c12 => ?_)
    · skip
      obtain rfl : o = 21 := by simpa using c12
      obtain ⟨a, y, z, rfl⟩ := ethree (l := l) (by omega)
      refine Zs (Zq rfl (QW.move (.tmp rfl)) (Zq rfl (QW.field_ptr fo25_3 (.tmp rfl) rfl) (Zq rfl (QW.load_box1 1 ty23 (.tmp rfl) rfl rfl) (Zq rfl (QW.index_sl sl23 ty25 rfl (.tmp rfl) .const rfl (by rfl)) ?_))))
      refine Zq rfl (QW.load_ref ty25 (.tmp rfl) (take_at0 xl rfl) xl) (JL.callRF [.k, .k, .p] gofn53 rfl Lent.nil (fun _ => (.cons (.tmp rfl) (.cons (.tmp rfl) .nil))) (truth15_ok (e := a) (f := f - 1) ih Xc.self (hwl _ (by simp)) (hfl _ (by simp)) hs h1 (hsz _ (by simp))) (.inl rfl) fun x105 o105 h105 => ?_)
      obtain ⟨q105, f105, c105, hq105, hqf105, rfl, rfl⟩ := h105
      refine Zq rfl (QW.assign (.tmp rfl)) (Zn (J.seq (J.block (Zs (Zq rfl (QW.move (.tmp rfl)) (Zq rfl (QW.nil_ptr (.tmp rfl)) (Zq rfl (QW.field_ptr fo73_2 (.tmp rfl) rfl) (Zq rfl (QW.load_box1 2 ty3 (.tmp rfl) rfl qb_err) (Zq rfl (QW.neq (.tmp rfl) .const) ?_)))))))))
      refine Zq rfl (QW.assign (.tmp rfl)) (Zn ?_)
      refine J.cond (.tmp rfl) (fun c13 => ?_) (fun c13 => ?_)
      · skip
        have hc : ¬ c105 = 0 := by simpa using c13
        exact Zs (Zq rfl (QW.build (idx := []) pl29 z29 rfl .nil rfl rfl rfl rfl) (JL.store_boxF 0 ty29 (.tmp rfl) rfl (.tmp rfl) rfl rfl rfl rfl (Zn (J.ret (blkQ.r (thenQ.r (blkQ.r (thenQ.r (Zr [.k, .k, .p] (RetEv.one rfl (REv.cell 0 ty29 rfl rfl rfl rfl (.aggL (.cons lr (.cons lr (.cons lr (.cons (.nil false false _) (.cons (.nil false false _) .nil)))))))) rfl (RvR.mk (v := .nil) (by rw [ev_21 hlo]; exact if_r0 hq105 hc)))))))))))
      obtain rfl : c105 = 0 := by simpa using c13
      have h2 : okF f105 := tr_okF (hwl _ (by simp)) (hfl _ (by simp)) hs h1 (hq105.ok rfl)
      refine Zs (Zq rfl (QW.move (.tmp rfl)) (Zq rfl (QW.assign (.tmp rfl)) (Zn ?_)))
      refine J.cond (.tmp rfl) (fun c14 => ?_) (fun c14 => ?_)
      · skip
        obtain rfl : q105 = true := c14
        refine Zs (Zq rfl (QW.move (.tmp rfl)) (Zq rfl (QW.field_ptr fo25_3 (.tmp rfl) rfl) (Zq rfl (QW.load_box1 1 ty23 (.tmp rfl) rfl rfl) (Zq rfl (QW.index_sl sl23 ty25 rfl (.tmp rfl) .const rfl (by rfl)) ?_))))
        refine Zq rfl (QW.load_ref ty25 (.tmp rfl) (take_at0 xl rfl) xl) (JL.callRF [.k, .k, .p] gofn34 rfl Lent.nil (fun _ => (.cons (.tmp rfl) (.cons (.tmp rfl) .nil))) (ih y s (f105) b fr (hwl _ (by simp)) (hfl _ (by simp)) hs h2 (hsz _ (by simp))) (.inl rfl) fun x120 o120 h120 => ?_)
        obtain ⟨v120, f120, c120, hv120, rfl, rfl⟩ := h120
        exact JL.store_boxF 0 ty29 (.tmp rfl) rfl (.tmp rfl) rfl vl rfl rfl (Zn (J.ret (blkQ.r (thenQ.r (blkQ.r (thenQ.r (Zr [.k, .k, .p] (RetEv.one rfl (REv.cell 0 ty29 rfl rfl (take_at vl rfl) vl lr)) rfl (RvR.mk (by rw [ev_21 hlo, if_t (hq105.ok rfl)]; exact hv120)))))))))
      obtain rfl : q105 = false := by simpa using c14
      refine J.skip (blkQ.n (thenQ.n (Zs (Zq rfl (QW.move (.tmp rfl)) (Zq rfl (QW.field_ptr fo25_3 (.tmp rfl) rfl) (Zq rfl (QW.load_box1 1 ty23 (.tmp rfl) rfl rfl) (Zq rfl (QW.index_sl sl23 ty25 rfl (.tmp rfl) .const rfl (by rfl)) ?_)))))))
      refine Zq rfl (QW.load_ref ty25 (.tmp rfl) (take_at0 xl rfl) xl) (JL.callRF [.k, .k, .p] gofn34 rfl Lent.nil (fun _ => (.cons (.tmp rfl) (.cons (.tmp rfl) .nil))) (ih z s (f105) b fr (hwl _ (by simp)) (hfl _ (by simp)) hs h2 (hsz _ (by simp))) (.inl rfl) fun x126 o126 h126 => ?_)
      obtain ⟨v126, f126, c126, hv126, rfl, rfl⟩ := h126
      exact JL.store_boxF 0 ty29 (.tmp rfl) rfl (.tmp rfl) rfl vl rfl rfl (Zn (J.ret (blkQ.r (thenQ.r (Zr [.k, .k, .p] (RetEv.one rfl (REv.cell 0 ty29 rfl rfl (take_at vl rfl) vl lr)) rfl (RvR.mk (by rw [ev_21 hlo, if_f (hq105.ok rfl)]; exact hv126)))))))
    have n21 : ¬ o = 21 := by simpa using c12
    refine Zs (Zq rfl (QW.eql (.tmp rfl) .const) (Zq rfl (QW.assign (.tmp rfl)) (Zn ?_)))
    refine J.cond (.tmp rfl) (fun c13 => ?_) (fun c13 => ?_)
    · skip
      obtain rfl : o = 23 := by simpa using c13
      refine Zs (Zq rfl (QW.move (.tmp rfl)) (Zq rfl (QW.field_ptr fo25_3 (.tmp rfl) rfl) (Zq rfl (QW.load_box1 1 ty23 (.tmp rfl) rfl rfl) (JL.callRF [.k, .k, .p] gofn54 rfl Lent.nil (fun _ => (.cons (.tmp rfl) (.cons (.tmp rfl) .nil))) (args15_ok ih hwl hfl hsz hs h1 hl8) (.inl rfl) fun x132 o132 h132 => ?_))))
      obtain ⟨vs132, f132, c132, hv132, hg132, hn132, rfl, rfl⟩ := h132
      refine Zq rfl (QW.assign (.tmp rfl)) (Zn (Zs (Zq rfl (QW.move (.tmp rfl)) (Zq rfl (QW.move (.tmp rfl)) (Zq rfl (QW.build (idx := [0, 4]) pl29 z29 rfl (.cons .const (.cons (.tmp rfl) .nil)) rfl rfl rfl rfl) (JL.callRF [.k, .k, .p] gofn55 rfl Lent.nil (fun _ => (.cons (.tmp rfl) (.cons (Ev.le (.tmp rfl) (.aggL (.cons lr (.cons lr (.cons lr (.cons (.nil false false _) (.cons lr .nil))))))) .nil))) (made15_ok (fr := false) (v := .li vs132) (s := s) Vc.self (fun h => li_wf8 (hg132 h).1 (by omega))) (.inl rfl) fun x136 o136 h136 => ?_))))))
      obtain ⟨rfl, rfl⟩ := h136
      exact JL.store_boxF 0 ty29 (.tmp rfl) rfl (.tmp rfl) rfl rfl rfl rfl (Zn (J.ret (blkQ.r (thenQ.r (Zr [.k, .k, .p] (RetEv.one rfl (REv.cell 0 ty29 rfl rfl rfl rfl lr)) rfl (RvR.mk (v := .li vs132) (by rw [ev_pl hlo (.inl rfl)]; exact pl_23 hv132)))))))
    have n23 : ¬ o = 23 := by simpa using c13
    refine J.seq (Zs (Zq rfl (QW.eql (.tmp rfl) .const) (Zq rfl (QW.assign (.tmp rfl)) (Zn ?_))))
    refine J.cond (.tmp rfl) (fun c14 => ?_) (fun c14 => ?_)
    · skip
      have ho : o = 27 ∨ o = 28 ∨ o = 29 := by (have hh := c14; simp at hh; omega)
      obtain ⟨a, y, rfl⟩ := etwo (l := l) (by omega)
      refine Zk ?_
      refine J.cond (.tmp rfl) (fun c15 => ?_) (fun c15 => absurd c15 (by (rw [c14]; decide)))
      refine Zs (Zq rfl (QW.move (.tmp rfl)) (Zq rfl (QW.field_ptr fo25_3 (.tmp rfl) rfl) (Zq rfl (QW.load_box1 1 ty23 (.tmp rfl) rfl rfl) (Zq rfl (QW.index_sl sl23 ty25 rfl (.tmp rfl) .const rfl (by rfl)) ?_))))
      refine Zq rfl (QW.load_ref ty25 (.tmp rfl) (take_at0 xl rfl) xl) (JL.callRF [.k, .k, .p] gofn34 rfl Lent.nil (fun _ => (.cons (.tmp rfl) (.cons (.tmp rfl) .nil))) (ih a s (f - 1) b fr (hwl _ (by simp)) (hfl _ (by simp)) hs h1 (hsz _ (by simp))) (.inl rfl) fun x146 o146 h146 => ?_)
      obtain ⟨v146, f146, c146, hv146, rfl, rfl⟩ := h146
      refine JL.alloc z29 rfl rfl fun b8 => JL.store_boxF 0 ty29 (.tmp rfl) rfl (.tmp rfl) rfl vl rfl rfl (Zn (J.seq (Zs (Zq rfl (QW.move (.tmp rfl)) (Zq rfl (QW.nil_ptr (.tmp rfl)) (Zq rfl (QW.field_ptr fo73_2 (.tmp rfl) rfl) (Zq rfl (QW.load_box1 3 ty3 (.tmp rfl) rfl qb_err) (Zq rfl (QW.neq (.tmp rfl) .const) ?_))))))))
      refine Zn ?_
      refine J.cond (.tmp rfl) (fun c16 => ?_) (fun c16 => ?_)
      · skip
        have hc : ¬ c146 = 0 := by simpa using c16
        exact Zs (Zq rfl (QW.load_box 0 ty29 (.tmp rfl) rfl (take_at vl rfl) vl) (JL.store_boxF 1 ty29 (.tmp rfl) rfl (.tmp rfl) rfl vl rfl rfl (Zn (J.ret (thenQ.r (blkQ.r (thenQ.r (Zr [.k, .k, .k, .p] (RetEv.one rfl (REv.cell 1 ty29 rfl rfl (take_at vl rfl) vl lr)) rfl (RvR.mk (by rw [ev_over ho hlo]; exact ov_r hv146 hc))))))))))
      obtain rfl : c146 = 0 := by simpa using c16
      obtain ⟨hv2, h2⟩ := ev_okF (hwl _ (by simp)) (hfl _ (by simp)) hs h1 (hv146.ok rfl)
      refine Zk (J.seq (J.regionX mixed (Zf 0 [] rfl (fun _ => QW.move (.tmp rfl)) (Zo 1 0 [] rfl (fun _ ho_ => QW.load_box 0 ty29 (.tmp rfl) ho_ (take_at vl rfl) vl) (Zf 2 [] rfl (fun _ => QW.field_ptr fo25_3 (.tmp rfl) rfl) (Zo 3 2 [155] rfl (fun _ ho_ => QW.load_box1 2 ty23 (.tmp rfl) ho_ rfl) (Zf 4 [156] rfl (fun _ => QW.index_sl sl23 ty25 rfl (.tmp rfl) .const rfl (by rfl)) ?_)))))))
      refine Zf 5 [157] rfl (fun _ => QW.load_ref ty25 (.tmp rfl) (take_at0 xl rfl) xl) (Zf 6 [] rfl (fun _ => QW.field_ptr fo25_0 (.tmp rfl) rfl) (Zo 7 2 [159] rfl (fun _ ho_ => QW.load_box1 2 ty3 (.tmp rfl) ho_ rfl) (JX.one 8 [true, true, true, true, true, true, true, true] rfl (by kernel_rfl) (by kernel_rfl) rfl rfl (by kernel_rfl) rfl fun bs8_ pe_ ex_ => ?_)))
      refine JL.conv (by (try simp only [vlF, bxF, tkM, lvM, Flt.val, Flt.bx, nx, nl, stepsO, valO, nthO, curO, mrg, AV.cellsOf, splice_zero, splice_succ, Nat.reduceAdd]); rfl) ?_
      refine JL.callRF [.k, .k, .k, .p] gofn56 rfl Lent.nil (fun _ => (.cons (.tmp rfl) (.cons (.tmp rfl) (.cons (.tmp rfl) (.cons (.tmp rfl) .nil))))) (over15_ok (n := n) (v := v146) (y := y) (s := s) (f := f146) (b := b) (fr := fr) ih Xc.self hv2 (hwl _ (by simp)) (hfl _ (by simp)) hs h2 (hsz _ (by simp)) ho) (.inl rfl) fun x161 o161 h161 => ?_
      obtain ⟨v161, f161, c161, hv161, rfl, rfl⟩ := h161
      refine JL.nil ?_
      refine thenQ.n ⟨[_], _, rfl, rfl, rfl, rfl, rfl, Reown.mrgN 4 rfl rfl, ⟨rfl, rfl⟩, trivial, ?_⟩
      refine JX.conv (S' := [8, 7, 6, 5, 4, 3, 2, 1, 0]) rfl (by (try simp only [lvM]); rfl) (by (try simp only [vlF, bxF, tkM, lvM, Flt.val, Flt.bx, nx, nl, stepsO, valO, nthO, curO, mrg, AV.cellsOf, splice_zero, splice_succ, Nat.reduceAdd]); rfl) ?_
      refine JX.one 9 [] rfl (by kernel_rfl) (by kernel_rfl) rfl rfl (by kernel_rfl) rfl fun bs9_ pe_ ex_ => ?_
      refine JL.conv (by (try simp only [vlF, bxF, tkM, lvM, Flt.val, Flt.bx, nx, nl, stepsO, valO, nthO, curO, mrg, AV.cellsOf, splice_zero, splice_succ, Nat.reduceAdd]); rfl) ?_
      refine JL.store_boxF 1 ty29 (.tmp rfl) rfl (.tmp rfl) rfl vl rfl rfl (JL.nil ?_)
      refine thenQ.n ⟨[], _, rfl, rfl, rfl, rfl, rfl, Reown.tkN 4 rfl, trivial, trivial, ?_⟩
      refine JX.conv (S' := [9, 8, 7, 6, 5, 4, 3, 2, 1, 0]) rfl (by (try simp only [lvM]); rfl) (by (try simp only [vlF, bxF, tkM, lvM, Flt.val, Flt.bx, nx, nl, stepsO, valO, nthO, curO, mrg, AV.cellsOf, splice_zero, splice_succ, Nat.reduceAdd]); rfl) ?_
      refine JX.fin (by kernel_rfl) (by kernel_rfl) fun bs_ => ?_
      refine QX.conv (by (try simp only [vlF, bxF, tkM, lvM, Flt.val, Flt.bx, nx, nl, stepsO, valO, nthO, curO, mrg, AV.cellsOf, splice_zero, splice_succ, Nat.reduceAdd]); rfl) ?_
      exact thenQ.n (J.ret (blkQ.r (thenQ.r (Zr [.k, .k, .k, .p] (RetEv.one rfl (REv.cell 1 ty29 rfl rfl (take_at vl rfl) vl lr)) rfl (RvR.mk (by rw [ev_over ho hlo]; exact ov_s hv146 hv161))))))
    have n27 : ¬ o = 27 := by simpa using c14
    refine Zs (Zq rfl (QW.eql (.tmp rfl) .const) (Zq rfl (QW.assign (.tmp rfl)) (Zn ?_)))
    refine J.cond (.tmp rfl) (fun c15 => ?_) (fun c15 => ?_)
    · skip
      have ho : o = 27 ∨ o = 28 ∨ o = 29 := by (have hh := c15; simp at hh; omega)
      obtain ⟨a, y, rfl⟩ := etwo (l := l) (by omega)
      refine Zk ?_
      refine J.cond (.tmp rfl) (fun c16 => ?_) (fun c16 => absurd c16 (by (rw [c15]; decide)))
      refine Zs (Zq rfl (QW.move (.tmp rfl)) (Zq rfl (QW.field_ptr fo25_3 (.tmp rfl) rfl) (Zq rfl (QW.load_box1 1 ty23 (.tmp rfl) rfl rfl) (Zq rfl (QW.index_sl sl23 ty25 rfl (.tmp rfl) .const rfl (by rfl)) ?_))))
      refine Zq rfl (QW.load_ref ty25 (.tmp rfl) (take_at0 xl rfl) xl) (JL.callRF [.k, .k, .p] gofn34 rfl Lent.nil (fun _ => (.cons (.tmp rfl) (.cons (.tmp rfl) .nil))) (ih a s (f - 1) b fr (hwl _ (by simp)) (hfl _ (by simp)) hs h1 (hsz _ (by simp))) (.inl rfl) fun x146 o146 h146 => ?_)
      obtain ⟨v146, f146, c146, hv146, rfl, rfl⟩ := h146
      refine JL.alloc z29 rfl rfl fun b8 => JL.store_boxF 0 ty29 (.tmp rfl) rfl (.tmp rfl) rfl vl rfl rfl (Zn (J.seq (Zs (Zq rfl (QW.move (.tmp rfl)) (Zq rfl (QW.nil_ptr (.tmp rfl)) (Zq rfl (QW.field_ptr fo73_2 (.tmp rfl) rfl) (Zq rfl (QW.load_box1 3 ty3 (.tmp rfl) rfl qb_err) (Zq rfl (QW.neq (.tmp rfl) .const) ?_))))))))
      refine Zn ?_
      refine J.cond (.tmp rfl) (fun c17 => ?_) (fun c17 => ?_)
      · skip
        have hc : ¬ c146 = 0 := by simpa using c17
        exact Zs (Zq rfl (QW.load_box 0 ty29 (.tmp rfl) rfl (take_at vl rfl) vl) (JL.store_boxF 1 ty29 (.tmp rfl) rfl (.tmp rfl) rfl vl rfl rfl (Zn (J.ret (thenQ.r (blkQ.r (thenQ.r (Zr [.k, .k, .k, .p] (RetEv.one rfl (REv.cell 1 ty29 rfl rfl (take_at vl rfl) vl lr)) rfl (RvR.mk (by rw [ev_over ho hlo]; exact ov_r hv146 hc))))))))))
      obtain rfl : c146 = 0 := by simpa using c17
      obtain ⟨hv2, h2⟩ := ev_okF (hwl _ (by simp)) (hfl _ (by simp)) hs h1 (hv146.ok rfl)
      refine Zk (J.seq (J.regionX mixed (Zf 0 [] rfl (fun _ => QW.move (.tmp rfl)) (Zo 1 0 [] rfl (fun _ ho_ => QW.load_box 0 ty29 (.tmp rfl) ho_ (take_at vl rfl) vl) (Zf 2 [] rfl (fun _ => QW.field_ptr fo25_3 (.tmp rfl) rfl) (Zo 3 2 [155] rfl (fun _ ho_ => QW.load_box1 2 ty23 (.tmp rfl) ho_ rfl) (Zf 4 [156] rfl (fun _ => QW.index_sl sl23 ty25 rfl (.tmp rfl) .const rfl (by rfl)) ?_)))))))
      refine Zf 5 [157] rfl (fun _ => QW.load_ref ty25 (.tmp rfl) (take_at0 xl rfl) xl) (Zf 6 [] rfl (fun _ => QW.field_ptr fo25_0 (.tmp rfl) rfl) (Zo 7 2 [159] rfl (fun _ ho_ => QW.load_box1 2 ty3 (.tmp rfl) ho_ rfl) (JX.one 8 [true, true, true, true, true, true, true, true] rfl (by kernel_rfl) (by kernel_rfl) rfl rfl (by kernel_rfl) rfl fun bs8_ pe_ ex_ => ?_)))
      refine JL.conv (by (try simp only [vlF, bxF, tkM, lvM, Flt.val, Flt.bx, nx, nl, stepsO, valO, nthO, curO, mrg, AV.cellsOf, splice_zero, splice_succ, Nat.reduceAdd]); rfl) ?_
      refine JL.callRF [.k, .k, .k, .p] gofn56 rfl Lent.nil (fun _ => (.cons (.tmp rfl) (.cons (.tmp rfl) (.cons (.tmp rfl) (.cons (.tmp rfl) .nil))))) (over15_ok (n := n) (v := v146) (y := y) (s := s) (f := f146) (b := b) (fr := fr) ih Xc.self hv2 (hwl _ (by simp)) (hfl _ (by simp)) hs h2 (hsz _ (by simp)) ho) (.inl rfl) fun x161 o161 h161 => ?_
      obtain ⟨v161, f161, c161, hv161, rfl, rfl⟩ := h161
      refine JL.nil ?_
      refine thenQ.n ⟨[_], _, rfl, rfl, rfl, rfl, rfl, Reown.mrgN 4 rfl rfl, ⟨rfl, rfl⟩, trivial, ?_⟩
      refine JX.conv (S' := [8, 7, 6, 5, 4, 3, 2, 1, 0]) rfl (by (try simp only [lvM]); rfl) (by (try simp only [vlF, bxF, tkM, lvM, Flt.val, Flt.bx, nx, nl, stepsO, valO, nthO, curO, mrg, AV.cellsOf, splice_zero, splice_succ, Nat.reduceAdd]); rfl) ?_
      refine JX.one 9 [] rfl (by kernel_rfl) (by kernel_rfl) rfl rfl (by kernel_rfl) rfl fun bs9_ pe_ ex_ => ?_
      refine JL.conv (by (try simp only [vlF, bxF, tkM, lvM, Flt.val, Flt.bx, nx, nl, stepsO, valO, nthO, curO, mrg, AV.cellsOf, splice_zero, splice_succ, Nat.reduceAdd]); rfl) ?_
      refine JL.store_boxF 1 ty29 (.tmp rfl) rfl (.tmp rfl) rfl vl rfl rfl (JL.nil ?_)
      refine thenQ.n ⟨[], _, rfl, rfl, rfl, rfl, rfl, Reown.tkN 4 rfl, trivial, trivial, ?_⟩
      refine JX.conv (S' := [9, 8, 7, 6, 5, 4, 3, 2, 1, 0]) rfl (by (try simp only [lvM]); rfl) (by (try simp only [vlF, bxF, tkM, lvM, Flt.val, Flt.bx, nx, nl, stepsO, valO, nthO, curO, mrg, AV.cellsOf, splice_zero, splice_succ, Nat.reduceAdd]); rfl) ?_
      refine JX.fin (by kernel_rfl) (by kernel_rfl) fun bs_ => ?_
      refine QX.conv (by (try simp only [vlF, bxF, tkM, lvM, Flt.val, Flt.bx, nx, nl, stepsO, valO, nthO, curO, mrg, AV.cellsOf, splice_zero, splice_succ, Nat.reduceAdd]); rfl) ?_
      exact thenQ.n (J.ret (blkQ.r (thenQ.r (Zr [.k, .k, .k, .p] (RetEv.one rfl (REv.cell 1 ty29 rfl rfl (take_at vl rfl) vl lr)) rfl (RvR.mk (by rw [ev_over ho hlo]; exact ov_s hv146 hv161))))))
    have n28 : ¬ o = 28 := by simpa using c15
    refine J.region_lit (Zq rfl (QW.eql (.tmp rfl) .const) (Zq rfl (QW.assign (.tmp rfl)) (Zn ?_)))
    refine J.cond (.tmp rfl) (fun c16 => ?_) (fun c16 => ?_)
    · skip
      have ho : o = 27 ∨ o = 28 ∨ o = 29 := by (have hh := c16; simp at hh; omega)
      obtain ⟨a, y, rfl⟩ := etwo (l := l) (by omega)
      refine Zs (Zq rfl (QW.move (.tmp rfl)) (Zq rfl (QW.field_ptr fo25_3 (.tmp rfl) rfl) (Zq rfl (QW.load_box1 1 ty23 (.tmp rfl) rfl rfl) (Zq rfl (QW.index_sl sl23 ty25 rfl (.tmp rfl) .const rfl (by rfl)) ?_))))
      refine Zq rfl (QW.load_ref ty25 (.tmp rfl) (take_at0 xl rfl) xl) (JL.callRF [.k, .k, .p] gofn34 rfl Lent.nil (fun _ => (.cons (.tmp rfl) (.cons (.tmp rfl) .nil))) (ih a s (f - 1) b fr (hwl _ (by simp)) (hfl _ (by simp)) hs h1 (hsz _ (by simp))) (.inl rfl) fun x146 o146 h146 => ?_)
      obtain ⟨v146, f146, c146, hv146, rfl, rfl⟩ := h146
      refine JL.alloc z29 rfl rfl fun b8 => JL.store_boxF 0 ty29 (.tmp rfl) rfl (.tmp rfl) rfl vl rfl rfl (Zn (J.seq (Zs (Zq rfl (QW.move (.tmp rfl)) (Zq rfl (QW.nil_ptr (.tmp rfl)) (Zq rfl (QW.field_ptr fo73_2 (.tmp rfl) rfl) (Zq rfl (QW.load_box1 3 ty3 (.tmp rfl) rfl qb_err) (Zq rfl (QW.neq (.tmp rfl) .const) ?_))))))))
      refine Zn ?_
      refine J.cond (.tmp rfl) (fun c17 => ?_) (fun c17 => ?_)
      · skip
        have hc : ¬ c146 = 0 := by simpa using c17
        exact Zs (Zq rfl (QW.load_box 0 ty29 (.tmp rfl) rfl (take_at vl rfl) vl) (JL.store_boxF 1 ty29 (.tmp rfl) rfl (.tmp rfl) rfl vl rfl rfl (Zn (J.ret (thenQ.r (blkQ.r (thenQ.r (Zr [.k, .k, .k, .p] (RetEv.one rfl (REv.cell 1 ty29 rfl rfl (take_at vl rfl) vl lr)) rfl (RvR.mk (by rw [ev_over ho hlo]; exact ov_r hv146 hc))))))))))
      obtain rfl : c146 = 0 := by simpa using c17
      obtain ⟨hv2, h2⟩ := ev_okF (hwl _ (by simp)) (hfl _ (by simp)) hs h1 (hv146.ok rfl)
      refine Zk (J.seq (J.regionX mixed (Zf 0 [] rfl (fun _ => QW.move (.tmp rfl)) (Zo 1 0 [] rfl (fun _ ho_ => QW.load_box 0 ty29 (.tmp rfl) ho_ (take_at vl rfl) vl) (Zf 2 [] rfl (fun _ => QW.field_ptr fo25_3 (.tmp rfl) rfl) (Zo 3 2 [155] rfl (fun _ ho_ => QW.load_box1 2 ty23 (.tmp rfl) ho_ rfl) (Zf 4 [156] rfl (fun _ => QW.index_sl sl23 ty25 rfl (.tmp rfl) .const rfl (by rfl)) ?_)))))))
      refine Zf 5 [157] rfl (fun _ => QW.load_ref ty25 (.tmp rfl) (take_at0 xl rfl) xl) (Zf 6 [] rfl (fun _ => QW.field_ptr fo25_0 (.tmp rfl) rfl) (Zo 7 2 [159] rfl (fun _ ho_ => QW.load_box1 2 ty3 (.tmp rfl) ho_ rfl) (JX.one 8 [true, true, true, true, true, true, true, true] rfl (by kernel_rfl) (by kernel_rfl) rfl rfl (by kernel_rfl) rfl fun bs8_ pe_ ex_ => ?_)))
      refine JL.conv (by (try simp only [vlF, bxF, tkM, lvM, Flt.val, Flt.bx, nx, nl, stepsO, valO, nthO, curO, mrg, AV.cellsOf, splice_zero, splice_succ, Nat.reduceAdd]); rfl) ?_
      refine JL.callRF [.k, .k, .k, .p] gofn56 rfl Lent.nil (fun _ => (.cons (.tmp rfl) (.cons (.tmp rfl) (.cons (.tmp rfl) (.cons (.tmp rfl) .nil))))) (over15_ok (n := n) (v := v146) (y := y) (s := s) (f := f146) (b := b) (fr := fr) ih Xc.self hv2 (hwl _ (by simp)) (hfl _ (by simp)) hs h2 (hsz _ (by simp)) ho) (.inl rfl) fun x161 o161 h161 => ?_
      obtain ⟨v161, f161, c161, hv161, rfl, rfl⟩ := h161
      refine JL.nil ?_
      refine thenQ.n ⟨[_], _, rfl, rfl, rfl, rfl, rfl, Reown.mrgN 4 rfl rfl, ⟨rfl, rfl⟩, trivial, ?_⟩
      refine JX.conv (S' := [8, 7, 6, 5, 4, 3, 2, 1, 0]) rfl (by (try simp only [lvM]); rfl) (by (try simp only [vlF, bxF, tkM, lvM, Flt.val, Flt.bx, nx, nl, stepsO, valO, nthO, curO, mrg, AV.cellsOf, splice_zero, splice_succ, Nat.reduceAdd]); rfl) ?_
      refine JX.one 9 [] rfl (by kernel_rfl) (by kernel_rfl) rfl rfl (by kernel_rfl) rfl fun bs9_ pe_ ex_ => ?_
      refine JL.conv (by (try simp only [vlF, bxF, tkM, lvM, Flt.val, Flt.bx, nx, nl, stepsO, valO, nthO, curO, mrg, AV.cellsOf, splice_zero, splice_succ, Nat.reduceAdd]); rfl) ?_
      refine JL.store_boxF 1 ty29 (.tmp rfl) rfl (.tmp rfl) rfl vl rfl rfl (JL.nil ?_)
      refine thenQ.n ⟨[], _, rfl, rfl, rfl, rfl, rfl, Reown.tkN 4 rfl, trivial, trivial, ?_⟩
      refine JX.conv (S' := [9, 8, 7, 6, 5, 4, 3, 2, 1, 0]) rfl (by (try simp only [lvM]); rfl) (by (try simp only [vlF, bxF, tkM, lvM, Flt.val, Flt.bx, nx, nl, stepsO, valO, nthO, curO, mrg, AV.cellsOf, splice_zero, splice_succ, Nat.reduceAdd]); rfl) ?_
      refine JX.fin (by kernel_rfl) (by kernel_rfl) fun bs_ => ?_
      refine QX.conv (by (try simp only [vlF, bxF, tkM, lvM, Flt.val, Flt.bx, nx, nl, stepsO, valO, nthO, curO, mrg, AV.cellsOf, splice_zero, splice_succ, Nat.reduceAdd]); rfl) ?_
      exact thenQ.n (J.ret (blkQ.r (thenQ.r (Zr [.k, .k, .k, .p] (RetEv.one rfl (REv.cell 1 ty29 rfl rfl (take_at vl rfl) vl lr)) rfl (RvR.mk (by rw [ev_over ho hlo]; exact ov_s hv146 hv161))))))
    have n29 : ¬ o = 29 := by simpa using c16
    have hpl : o = 23 ∨ (8 ≤ o ∧ o ≠ 18 ∧ o ≠ 19 ∧ o ≠ 21 ∧ o ≠ 27 ∧ o ≠ 28 ∧ o ≠ 29) := by omega
    refine J.skip (blkQ.n (thenQ.n (Zs (Zq rfl (QW.move (.tmp rfl)) (Zq rfl (QW.field_ptr fo25_3 (.tmp rfl) rfl) (Zq rfl (QW.load_box1 1 ty23 (.tmp rfl) rfl rfl) (JL.callRF [.k, .k, .p] gofn54 rfl Lent.nil (fun _ => (.cons (.tmp rfl) (.cons (.tmp rfl) .nil))) (args15_ok ih hwl hfl hsz hs h1 hl8) (.inl rfl) fun x165 o165 h165 => ?_)))))))
    obtain ⟨vs165, f165, c165, hv165, hg165, hn165, rfl, rfl⟩ := h165
    refine Zq rfl (QW.assign (.tmp rfl)) (Zn (J.seq (J.block (Zs (Zq rfl (QW.move (.tmp rfl)) (Zq rfl (QW.nil_ptr (.tmp rfl)) (Zq rfl (QW.field_ptr fo73_2 (.tmp rfl) rfl) (Zq rfl (QW.load_box1 2 ty3 (.tmp rfl) rfl qb_err) (Zq rfl (QW.neq (.tmp rfl) .const) ?_)))))))))
    refine Zq rfl (QW.assign (.tmp rfl)) (Zn ?_)
    refine J.cond (.tmp rfl) (fun c17 => ?_) (fun c17 => ?_)
    · skip
      have hc : ¬ c165 = 0 := by simpa using c17
      exact Zs (Zq rfl (QW.build (idx := []) pl29 z29 rfl .nil rfl rfl rfl rfl) (JL.store_boxF 0 ty29 (.tmp rfl) rfl (.tmp rfl) rfl rfl rfl rfl (Zn (J.ret (blkQ.r (thenQ.r (Zr [.k, .k, .p] (RetEv.one rfl (REv.cell 0 ty29 rfl rfl rfl rfl (.aggL (.cons lr (.cons lr (.cons lr (.cons (.nil false false _) (.cons (.nil false false _) .nil)))))))) rfl (RvR.mk (v := .nil) (by rw [ev_pl hlo hpl]; exact pl_n hv165 hc)))))))))
    obtain rfl : c165 = 0 := by simpa using c17
    obtain ⟨hgd, h2⟩ := hg165 rfl
    refine Zs (Zq rfl (QW.move (.tmp rfl)) (Zq rfl (QW.len_slE sl27 (.tmp rfl) wl) (Zq rfl (QW.eql (.tmp rfl) .const) (Zq rfl (QW.assign (.tmp rfl)) (Zn ?_)))))
    refine J.cond (.tmp rfl) (fun c18 => ?_) (fun c18 => ?_)
    · skip
      have h1l : l.length = 1 := by (simp [V.css_length] at c18; omega)
      obtain ⟨x, rfl⟩ := one_of (l := vs165) (by omega)
      have hx1 := hgd x (by simp)
      have ho1 : o = 8 ∨ o = 10 ∨ o = 15 ∨ o = 20 ∨ o = 26 := by omega
      refine J.seq (J.regionX mixed (Zf 0 [] rfl (fun _ => QW.move (.tmp rfl)) (Zo 1 1 [] rfl (fun _ ho_ => QW.load_box 1 ty25 (.tmp rfl) ho_ rfl rfl) (Zf 2 [] rfl (fun _ => QW.move (.tmp rfl)) (Zf 3 [179] rfl (fun _ => QW.index_sl sl27 ty29 rfl (.tmp rfl) .const rfl (by rfl)) ?_)))))
      refine Zf 4 [180] rfl (fun _ => QW.load_ref ty29 (.tmp rfl) (take_at0 vl rfl) vl) (JX.one 5 [true, true, true, true, true] rfl (by kernel_rfl) (by kernel_rfl) rfl rfl (by kernel_rfl) rfl fun bs5_ pe_ ex_ => ?_)
      refine JL.conv (by (try simp only [vlF, bxF, tkM, lvM, Flt.val, Flt.bx, nx, nl, stepsO, valO, nthO, curO, mrg, AV.cellsOf, splice_zero, splice_succ, Nat.reduceAdd]); rfl) ?_
      refine JL.callRF [.k, .k, .p] gofn57 rfl Lent.nil (fun _ => (.cons (.tmp rfl) (.cons (.tmp rfl) (.cons (.tmp rfl) .nil)))) (one15_ok (a := x) (s := s) (f := f165) (b := b) Xc.mk hx1 ho1) (.inl rfl) fun x182 o182 h182 => ?_
      obtain ⟨v182, c182, hv182, rfl, rfl⟩ := h182
      refine JL.nil ?_
      refine thenQ.n ⟨[_], _, rfl, rfl, rfl, rfl, rfl, Reown.mrgN 3 rfl rfl, ⟨rfl, rfl⟩, trivial, ?_⟩
      refine JX.conv (S' := [5, 4, 3, 2, 1, 0]) rfl (by (try simp only [lvM]); rfl) (by (try simp only [vlF, bxF, tkM, lvM, Flt.val, Flt.bx, nx, nl, stepsO, valO, nthO, curO, mrg, AV.cellsOf, splice_zero, splice_succ, Nat.reduceAdd]); rfl) ?_
      refine JX.one 6 [] rfl (by kernel_rfl) (by kernel_rfl) rfl rfl (by kernel_rfl) rfl fun bs6_ pe_ ex_ => ?_
      refine JL.conv (by (try simp only [vlF, bxF, tkM, lvM, Flt.val, Flt.bx, nx, nl, stepsO, valO, nthO, curO, mrg, AV.cellsOf, splice_zero, splice_succ, Nat.reduceAdd]); rfl) ?_
      refine JL.store_boxF 0 ty29 (.tmp rfl) rfl (.tmp rfl) rfl vl rfl rfl (JL.nil ?_)
      refine thenQ.n ⟨[], _, rfl, rfl, rfl, rfl, rfl, Reown.tkN 3 rfl, trivial, trivial, ?_⟩
      refine JX.conv (S' := [6, 5, 4, 3, 2, 1, 0]) rfl (by (try simp only [lvM]); rfl) (by (try simp only [vlF, bxF, tkM, lvM, Flt.val, Flt.bx, nx, nl, stepsO, valO, nthO, curO, mrg, AV.cellsOf, splice_zero, splice_succ, Nat.reduceAdd]); rfl) ?_
      refine JX.fin (by kernel_rfl) (by kernel_rfl) fun bs_ => ?_
      refine QX.conv (by (try simp only [vlF, bxF, tkM, lvM, Flt.val, Flt.bx, nx, nl, stepsO, valO, nthO, curO, mrg, AV.cellsOf, splice_zero, splice_succ, Nat.reduceAdd]); rfl) ?_
      exact thenQ.n (J.ret (blkQ.r (thenQ.r (Zr [.k, .k, .p] (RetEv.one rfl (REv.cell 0 ty29 rfl rfl (take_at vl rfl) vl lr)) rfl (RvR.mk (by rw [ev_pl hlo hpl]; exact pl_r hv165 (pl_1 n23 t x ▸ hv182)))))))
    have h1l : ¬ l.length = 1 := by (simp [V.css_length] at c18; omega)
    obtain ⟨x, y, rfl⟩ := two_of (l := vs165) (by omega)
    have hx1 := hgd x (by simp)
    have hx2 := hgd y (by simp)
    have ho2 : o = 9 ∨ o = 11 ∨ o = 12 ∨ o = 13 ∨ o = 14 ∨ o = 16 ∨ o = 17 ∨ o = 22 ∨ o = 24 ∨ o = 25 := by omega
    refine J.skip (blkQ.n (thenQ.n (J.seq (J.regionX mixed (Zf 0 [] rfl (fun _ => QW.move (.tmp rfl)) (Zo 1 1 [] rfl (fun _ ho_ => QW.load_box 1 ty25 (.tmp rfl) ho_ rfl rfl) (Zf 2 [] rfl (fun _ => QW.move (.tmp rfl)) (Zf 3 [185] rfl (fun _ => QW.index_sl sl27 ty29 rfl (.tmp rfl) .const rfl (by rfl)) ?_))))))))
    refine Zf 4 [186] rfl (fun _ => QW.load_ref ty29 (.tmp rfl) (take_at0 vl rfl) vl) (Zf 5 [] rfl (fun _ => QW.move (.tmp rfl)) (Zf 6 [188] rfl (fun _ => QW.index_sl sl27 ty29 rfl (.tmp rfl) .const rfl (by rfl)) ?_))
    refine Zf 7 [189] rfl (fun _ => QW.load_ref ty29 (.tmp rfl) (take_at0 vl rfl) vl) (JX.one 8 [true, true, true, true, true, true, true, true] rfl (by kernel_rfl) (by kernel_rfl) rfl rfl (by kernel_rfl) rfl fun bs8_ pe_ ex_ => ?_)
    refine JL.conv (by (try simp only [vlF, bxF, tkM, lvM, Flt.val, Flt.bx, nx, nl, stepsO, valO, nthO, curO, mrg, AV.cellsOf, splice_zero, splice_succ, Nat.reduceAdd]); rfl) ?_
    refine JL.callRF [.k, .k, .p] gofn58 rfl Lent.nil (fun _ => (.cons (.tmp rfl) (.cons (.tmp rfl) (.cons (.tmp rfl) (.cons (.tmp rfl) .nil))))) (two15_ok (a := x) (c := y) (s := s) (f := f165) (b := b) Xc.mk htr hx1 hx2 ho2) (.inl rfl) fun x191 o191 h191 => ?_
    obtain ⟨v191, c191, hv191, rfl, rfl⟩ := h191
    refine JL.nil ?_
    refine thenQ.n ⟨[_], _, rfl, rfl, rfl, rfl, rfl, Reown.mrgN 3 rfl rfl, ⟨rfl, rfl⟩, trivial, ?_⟩
    refine JX.conv (S' := [8, 7, 6, 5, 4, 3, 2, 1, 0]) rfl (by (try simp only [lvM]); rfl) (by (try simp only [vlF, bxF, tkM, lvM, Flt.val, Flt.bx, nx, nl, stepsO, valO, nthO, curO, mrg, AV.cellsOf, splice_zero, splice_succ, Nat.reduceAdd]); rfl) ?_
    refine JX.one 9 [] rfl (by kernel_rfl) (by kernel_rfl) rfl rfl (by kernel_rfl) rfl fun bs9_ pe_ ex_ => ?_
    refine JL.conv (by (try simp only [vlF, bxF, tkM, lvM, Flt.val, Flt.bx, nx, nl, stepsO, valO, nthO, curO, mrg, AV.cellsOf, splice_zero, splice_succ, Nat.reduceAdd]); rfl) ?_
    refine JL.store_boxF 0 ty29 (.tmp rfl) rfl (.tmp rfl) rfl vl rfl rfl (JL.nil ?_)
    refine thenQ.n ⟨[], _, rfl, rfl, rfl, rfl, rfl, Reown.tkN 3 rfl, trivial, trivial, ?_⟩
    refine JX.conv (S' := [9, 8, 7, 6, 5, 4, 3, 2, 1, 0]) rfl (by (try simp only [lvM]); rfl) (by (try simp only [vlF, bxF, tkM, lvM, Flt.val, Flt.bx, nx, nl, stepsO, valO, nthO, curO, mrg, AV.cellsOf, splice_zero, splice_succ, Nat.reduceAdd]); rfl) ?_
    refine JX.fin (by kernel_rfl) (by kernel_rfl) fun bs_ => ?_
    refine QX.conv (by (try simp only [vlF, bxF, tkM, lvM, Flt.val, Flt.bx, nx, nl, stepsO, valO, nthO, curO, mrg, AV.cellsOf, splice_zero, splice_succ, Nat.reduceAdd]); rfl) ?_
    exact thenQ.n (J.ret (Zr [.k, .k, .p] (RetEv.one rfl (REv.cell 0 ty29 rfl rfl (take_at vl rfl) vl lr)) rfl (RvR.mk (by rw [ev_pl hlo hpl]; exact pl_r hv165 (pl_2 n23 t x y ▸ hv191)))))
end Go.Proofs.YtjhonjdhanlbkaaGreat.J

/- Walks: the page's Run and Eval. -/
namespace Go.Proofs.YtjhonjdhanlbkaaGreat.J
open Go Go.RowKit
set_option maxRecDepth 10000
set_option maxHeartbeats 4000000
theorem at_get {s : ScT} {j : Nat} (h : j < 3) : [s.st.cs false, s.ev.cs false, s.it.cs false][j]? = some ((s.at j).cs false) := by
  match j, h with
  | 0, _ => rfl
  | 1, _ => rfl
  | 2, _ => rfl
theorem rrun_ok {fr : Bool} {e : EX} {ys : List AV} (he : Xc fr e ys) (hw : e.wf) (hf : e.Fine) {s : ScT} (hs : s.good) {f : Int} (h0 : okF f) : Fn Tryz.prog 25 [.agg ys, .agg s.cs, .c (.int .i64 f)] (runAV (runT e s f)) := by
  subst he
  obtain ⟨⟨ka, ua, ta, va, ia⟩, ⟨kb, ub, tb, vb, ib⟩, ⟨kc, uc, tc, vc, ic⟩⟩ := s
  refine AC.of_J Tryz.func25 rfl Tryz.ntmps25 rfl fun w0 A0 => ?_
  refine Zs (JL.box_agg (.tmp rfl) rfl fun b3 => JL.box_agg (.tmp rfl) rfl fun b4 => JL.alloc z29 rfl rfl fun b6 => Zq rfl (QW.assign .const) (Zq rfl (QW.assign .const) (Zn (Zs (Zq rfl (QW.load_box 1 ty31 (.tmp rfl) rfl rfl rfl) (Zq rfl (QW.move (.tmp rfl)) ?_))))))
  refine Zq rfl (QW.build (idx := [0, 1]) pl73 z73 rfl (.cons (.tmp rfl) (.cons (.tmp rfl) .nil)) rfl rfl rfl rfl) (JL.box_agg (.tmp rfl) rfl fun b14 => Zq rfl (QW.assign (.tmp rfl)) (Zn (Zs (Zq rfl (QW.move (.tmp rfl)) (Zq rfl (QW.load_box 3 ty25 (.tmp rfl) rfl (take_at xl rfl) xl) (JL.callRF [.p] gofn34 rfl Lent.nil (fun _ => (.cons (.tmp rfl) (.cons (.tmp rfl) .nil))) (meval15_n _ e ⟨⟨ka, ua, ta, va, ia⟩, ⟨kb, ub, tb, vb, ib⟩, ⟨kc, uc, tc, vc, ic⟩⟩ f b14 fr hw hf hs h0 (Nat.le_refl _)) (.inl rfl) fun x17 o17 h17 => ?_))))))
  obtain ⟨v17, f17, c17, hv17, rfl, rfl⟩ := h17
  refine JL.alloc z29 rfl rfl fun b10 => JL.store_boxF 0 ty29 (.tmp rfl) rfl (.tmp rfl) rfl vl rfl rfl (Zn (J.seq (Zs (Zq rfl (QW.move (.tmp rfl)) (Zq rfl (QW.nil_ptr (.tmp rfl)) (Zq rfl (QW.field_ptr fo73_2 (.tmp rfl) rfl) (Zq rfl (QW.load_box1 1 ty3 (.tmp rfl) rfl qb_err) (Zq rfl (QW.neq (.tmp rfl) .const) ?_))))))))
  refine Zn ?_
  refine J.cond (.tmp rfl) (fun c1 => ?_) (fun c1 => ?_)
  · skip
    have hc : ¬ c17 = 0 := by simpa using c1
    refine J.seq (J.regionX mixed (Zf 0 [] rfl (fun _ => QW.build (idx := []) pl29 z29 rfl .nil rfl rfl rfl rfl) (Zf 1 [] rfl (fun _ => QW.move (.tmp rfl)) (Zf 2 [24] rfl (fun _ => QW.nil_ptr (.tmp rfl)) (Zf 3 [25] rfl (fun _ => QW.field_ptr fo73_2 (.tmp rfl) rfl) (Zo 4 1 [26] rfl (fun _ ho_ => QW.load_box1 1 ty3 (.tmp rfl) ho_ qb_err) (JX.one 5 [false, false, false, false, true] rfl (by kernel_rfl) (by kernel_rfl) rfl rfl (by kernel_rfl) rfl fun bs5_ pe_ ex_ => ?_)))))))
    refine JL.conv (by (try simp only [vlF, bxF, tkM, lvM, Flt.val, Flt.bx, nx, nl, stepsO, valO, nthO, curO, mrg, AV.cellsOf, splice_zero, splice_succ, Nat.reduceAdd]); rfl) ?_
    refine JL.store_boxF 2 ty29 (.tmp rfl) rfl (.tmp rfl) rfl rfl rfl rfl (JL.nil ?_)
    refine thenQ.n ⟨[], _, rfl, rfl, rfl, rfl, rfl, Reown.tkN 5 rfl, trivial, ⟨rfl, ⟨trivial, ⟨trivial, ⟨trivial, trivial⟩⟩⟩⟩, ?_⟩
    refine JX.conv (S' := [5, 0]) rfl (by (try simp only [lvM]); rfl) (by (try simp only [vlF, bxF, tkM, lvM, Flt.val, Flt.bx, nx, nl, stepsO, valO, nthO, curO, mrg, AV.cellsOf, splice_zero, splice_succ, Nat.reduceAdd]); rfl) ?_
    refine Zf 6 [] rfl (fun _ => QW.assign .const) (Zf 7 [27] rfl (fun _ => QW.assign (.tmp rfl)) (JX.fin (by kernel_rfl) (by kernel_rfl) fun bs_ => ?_))
    refine QX.conv (by (try simp only [vlF, bxF, tkM, lvM, Flt.val, Flt.bx, nx, nl, stepsO, valO, nthO, curO, mrg, AV.cellsOf, splice_zero, splice_succ, Nat.reduceAdd]); rfl) ?_
    exact thenQ.n (J.ret (thenQ.r (Zr [.k, .k, .k, .k, .k] (RetEv.three rfl (REv.cell 2 ty29 rfl rfl rfl rfl (.aggL (.cons lr (.cons lr (.cons lr (.cons (.nil true false _) (.cons (.nil true false _) .nil))))))) (REv.tmp rfl lr) (REv.tmp rfl lr)) rfl ⟨congrArg (fun r => Res.ret (runAV r)) (runT_er (hv17.er hc)).symm, rfl⟩)))
  obtain rfl : c17 = 0 := by simpa using c1
  refine Zk (J.seq (J.regionX mixed (Zo 0 0 [] rfl (fun _ ho_ => QW.load_box 0 ty29 (.tmp rfl) ho_ (take_at vl rfl) vl) (Zf 1 [28] rfl (fun _ => QW.call gofn35 (.cons (.tmp rfl) .nil) (rown_rd Vc.self (ev_okF hw hf hs h0 (hv17.ok rfl)).1.wf)) (Zf 2 [] rfl (fun _ => QW.move (.tmp rfl)) (Zf 3 [30] rfl (fun _ => QW.nil_ptr (.tmp rfl)) (Zf 4 [31] rfl (fun _ => QW.field_ptr fo73_1 (.tmp rfl) rfl) (Zo 5 1 [32] rfl (fun _ ho_ => QW.load_box1 1 ty3 (.tmp rfl) ho_ qb_fuel) (JX.one 6 [false, false, false, false, true, true] rfl (by kernel_rfl) (by kernel_rfl) rfl rfl (by kernel_rfl) rfl fun bs6_ pe_ ex_ => ?_)))))))))
  refine JL.conv (by (try simp only [vlF, bxF, tkM, lvM, Flt.val, Flt.bx, nx, nl, stepsO, valO, nthO, curO, mrg, AV.cellsOf, splice_zero, splice_succ, Nat.reduceAdd]); rfl) ?_
  refine JL.store_boxF 2 ty29 (.tmp rfl) rfl (.tmp rfl) rfl vl rfl rfl (JL.nil ?_)
  refine thenQ.n ⟨[], _, rfl, rfl, rfl, rfl, rfl, Reown.tkN 5 rfl, trivial, ⟨rfl, ⟨trivial, ⟨trivial, ⟨trivial, trivial⟩⟩⟩⟩, ?_⟩
  refine JX.conv (S' := [6, 1, 0]) rfl (by (try simp only [lvM]); rfl) (by (try simp only [vlF, bxF, tkM, lvM, Flt.val, Flt.bx, nx, nl, stepsO, valO, nthO, curO, mrg, AV.cellsOf, splice_zero, splice_succ, Nat.reduceAdd]); rfl) ?_
  refine Zf 7 [33] rfl (fun _ => QW.assign (.tmp rfl)) (Zf 8 [] rfl (fun _ => QW.assign .const) (JX.fin (by kernel_rfl) (by kernel_rfl) fun bs_ => ?_))
  refine QX.conv (by (try simp only [vlF, bxF, tkM, lvM, Flt.val, Flt.bx, nx, nl, stepsO, valO, nthO, curO, mrg, AV.cellsOf, splice_zero, splice_succ, Nat.reduceAdd]); rfl) ?_
  exact thenQ.n (J.ret (Zr [.k, .k, .k, .k, .k] (RetEv.three rfl (REv.cell 2 ty29 rfl rfl (take_at vl rfl) vl lr) (REv.tmp rfl lr) (REv.tmp rfl lr)) rfl ⟨congrArg (fun r => Res.ret (runAV r)) (runT_ok (hv17.ok rfl)).symm, rfl⟩))
theorem reval_ok {fr : Bool} {e : EX} {ys : List AV} (he : Xc fr e ys) (hew : e.wf) {s : ScT} (hw : s.st.wf ∧ s.ev.wf ∧ s.it.wf) {f : Int} (h64 : -9223372036854775808 ≤ f ∧ f ≤ 9223372036854775807) : Fn Tryz.prog 12 [.agg ys, .agg s.cs, .c (.int .i64 f)] (runAV (evalT e s f)) := by
  subst he
  obtain ⟨⟨ka, ua, ta, va, ia⟩, ⟨kb, ub, tb, vb, ib⟩, ⟨kc, uc, tc, vc, ic⟩⟩ := s
  refine AC.of_J Tryz.func12 rfl Tryz.ntmps12 rfl fun w0 A0 => ?_
  refine Zs (JL.box_agg (.tmp rfl) rfl fun b3 => JL.box_agg (.tmp rfl) rfl fun b4 => JL.alloc z29 rfl rfl fun b6 => Zq rfl (QW.assign .const) (Zq rfl (QW.assign .const) (Zn (Zs (Zq rfl (QW.load_box 2 ty25 (.tmp rfl) rfl (take_at xl rfl) xl) (Zq rfl (QW.call gofn19 (.cons (.tmp rfl) .nil) (ercheck_ok Xc.self hew)) ?_))))))
  refine Zq rfl (QW.assign (.tmp rfl)) (Zn (J.seq (Zs (Zq rfl (QW.move (.tmp rfl)) (Zq rfl (QW.neq (.tmp rfl) .const) (Zn ?_))))))
  refine J.cond (.tmp rfl) (fun c1 => ?_) (fun c1 => ?_)
  · skip
    have hbe : ¬ e.err = 0 := by simpa using c1
    exact Zs (Zq rfl (QW.build (idx := []) pl29 z29 rfl .nil rfl rfl rfl rfl) (Zq rfl (QW.move (.tmp rfl)) (JL.store_boxF 0 ty29 (.tmp rfl) rfl (.tmp rfl) rfl rfl rfl rfl (Zq rfl (QW.assign .const) (Zq rfl (QW.assign (.tmp rfl)) (Zn (J.ret (thenQ.r (Zr [.k, .k, .k] (RetEv.three rfl (REv.cell 0 ty29 rfl rfl rfl rfl (.aggL (.cons lr (.cons lr (.cons lr (.cons (.nil true false _) (.cons (.nil true false _) .nil))))))) (REv.tmp rfl lr) (REv.tmp rfl lr)) rfl ⟨congrArg (fun r => Res.ret (runAV r)) (evalT_e hbe).symm, rfl⟩)))))))))
  have he : e.err = 0 := by simpa using c1
  refine Zk (Zs (Zq rfl (QW.field_ptr fo31_0 (.tmp rfl) rfl) (Zq rfl (QW.load_box 1 ty29 (.tmp rfl) rfl rfl rfl) (Zq rfl (QW.field_ptr fo31_1 (.tmp rfl) rfl) (Zq rfl (QW.load_box 1 ty29 (.tmp rfl) rfl rfl rfl) (Zq rfl (QW.field_ptr fo31_2 (.tmp rfl) rfl) (Zq rfl (QW.load_box 1 ty29 (.tmp rfl) rfl rfl rfl) (Zq rfl (QW.buildSlice (idx := [0, 1, 2]) (xs := [V.cs false (.mk ka ua ta va ia), V.cs false (.mk kb ub tb vb ib), V.cs false (.mk kc uc tc vc ic)]) sl27 el29 z29 rfl (.cons (.tmp rfl) (.cons (.tmp rfl) (.cons (.tmp rfl) .nil))) rfl rfl rfl rfl rfl rfl rfl rfl rfl) (Zq rfl (QW.assign (.tmp rfl)) ?_)))))))))
  refine Zn (J.seq (Zs (Zq rfl (QW.assign .const) (Zn (J.block (J.loopK (ι := Nat) [2, 3, 4, 6, 10] (fun j => [(11, .c (.int .i64 (j : Int))), (7, .c (.int .i64 0)), (8, .c (.int .i64 0))]) (fun _ oo => oo) (fun j => j ≤ 3 ∧ ∀ i, i < j → (ScT.at ⟨⟨ka, ua, ta, va, ia⟩, ⟨kb, ub, tb, vb, ib⟩, ⟨kc, uc, tc, vc, ic⟩⟩ i).err = 0) (fun j => 3 - j) 0 (⟨by omega, fun i hi => by omega⟩) (Wk.re (.cons rfl lr (.cons rfl lr (.cons rfl lr (.cons rfl lr (.cons rfl lr (.cons rfl lr (.cons rfl lr (.cons rfl lr .nil)))))))) (Reown.refl _) (fun _ h => by first | exact h | simp [h])) ?_))))))
  intro j ⟨hj, hall⟩
  refine J.conv (by (try simp only [nl, stepsO, valO, nthO, curO, mrg, AV.cellsOf, splice_zero, splice_succ, Nat.reduceAdd]); rfl) ?_
  refine J.seq (Zs (Zq rfl (QW.move (.tmp rfl)) (Zq rfl (QW.lss (.tmp rfl) .const) (Zn ?_))))
  refine J.cond (.tmp rfl) (fun c2 => ?_) (fun c2 => ?_)
  · skip
    have hj3 : j < 3 := by (simp at c2; omega)
    refine Zk (J.seq (J.block (Zs (Zq rfl (QW.move (.tmp rfl)) (Zq rfl (QW.move (.tmp rfl)) (Zq rfl (QW.index_sl sl27 ty29 rfl (.tmp rfl) (.tmp rfl) rfl (by exact at_get (s := ⟨⟨ka, ua, ta, va, ia⟩, ⟨kb, ub, tb, vb, ib⟩, ⟨kc, uc, tc, vc, ic⟩⟩) hj3)) ?_))))))
    refine Zq rfl (QW.load_ref ty29 (.tmp rfl) (take_at0 vl rfl) vl) (Zq rfl (QW.call gofn20 (.cons (.tmp rfl) .nil) (rcheck_ok Vc.self (ScT.at_wf hw j))) (Zq rfl (QW.assign (.tmp rfl)) (Zn (Zs (Zq rfl (QW.move (.tmp rfl)) (Zq rfl (QW.neq (.tmp rfl) .const) (Zn ?_)))))))
    refine J.cond (.tmp rfl) (fun c3 => ?_) (fun c3 => ?_)
    · skip
      have hbad : ¬ (ScT.at ⟨⟨ka, ua, ta, va, ia⟩, ⟨kb, ub, tb, vb, ib⟩, ⟨kc, uc, tc, vc, ic⟩⟩ j).err = 0 := by simpa using c3
      refine Zs (Zq rfl (QW.build (idx := []) pl29 z29 rfl .nil rfl rfl rfl rfl) (Zq rfl (QW.move (.tmp rfl)) (JL.store_boxF 0 ty29 (.tmp rfl) rfl (.tmp rfl) rfl rfl rfl rfl (Zq rfl (QW.assign .const) (Zq rfl (QW.assign (.tmp rfl)) (Zn (J.ret (blkQ.r (thenQ.r ?_)))))))))
      exact thenQ.r (blkQ.r (thenQ.r (Zr [.k, .k, .k] (RetEv.three rfl (REv.cell 0 ty29 rfl rfl rfl rfl (.aggL (.cons lr (.cons lr (.cons lr (.cons (.nil true false _) (.cons (.nil true false _) .nil))))))) (REv.tmp rfl lr) (REv.tmp rfl lr)) rfl ⟨congrArg (fun r => Res.ret (runAV r)) (evalT_s he hj3 hall hbad).symm, rfl⟩)))
    have hgo : (ScT.at ⟨⟨ka, ua, ta, va, ia⟩, ⟨kb, ub, tb, vb, ib⟩, ⟨kc, uc, tc, vc, ic⟩⟩ j).err = 0 := by simpa using c3
    refine J.skip (blkQ.n (thenQ.n (J.region_lit (Zq rfl (QW.move (.tmp rfl)) (Zq rfl (QW.add (.tmp rfl) .const (w64 (by omega))) (Zq rfl (QW.assign (.tmp rfl)) (Zn ?_)))))))
    exact ⟨j + 1, ⟨hj3, fun i hi => by rcases Nat.lt_succ_iff_lt_or_eq.1 hi with h | rfl; exact hall i h; exact hgo⟩, by omega, Wk.re (.cons rfl lr (.cons rfl lr (.cons rfl lr (.cons rfl lr (.cons rfl lr (.cons rfl lr (.cons rfl lr (.cons rfl lr .nil)))))))) (Reown.refl _) (fun _ h => by first | exact h | simp [h])⟩
  obtain rfl : j = 3 := by (simp at c2; omega)
  have h3 := at_all hall
  refine J.exit (thenQ.x (thenQ.x (blkQ.hit (thenQ.n (J.seq (Zs (Zq rfl (QW.move (.tmp rfl)) (Zq rfl (QW.lss (.tmp rfl) .const) (Zq rfl (QW.move (.tmp rfl)) ?_)))))))))
  refine Zg rfl (fun hg => (QW.move (.tmp rfl))) (Zg rfl (fun hg => (QW.gtr (.when rfl hg) .const)) (Zq rfl (QW.pick_or (.tmp rfl) (.tmp rfl)) (Zn ?_)))
  refine J.cond (.tmp rfl) (fun c3 => ?_) (fun c3 => ?_)
  · skip
    have hr : f < 0 ∨ 4096 < f := by simpa using c3
    exact Zs (Zq rfl (QW.build (idx := []) pl29 z29 rfl .nil rfl rfl rfl rfl) (JL.store_boxF 0 ty29 (.tmp rfl) rfl (.tmp rfl) rfl rfl rfl rfl (Zq rfl (QW.assign .const) (Zq rfl (QW.assign .const) (Zn (J.ret (thenQ.r (Zr [.k, .k, .k] (RetEv.three rfl (REv.cell 0 ty29 rfl rfl rfl rfl (.aggL (.cons lr (.cons lr (.cons lr (.cons (.nil true false _) (.cons (.nil true false _) .nil))))))) (REv.tmp rfl lr) (REv.tmp rfl lr)) rfl ⟨congrArg (fun r => Res.ret (runAV r)) (evalT_f he h3 hr).symm, rfl⟩))))))))
  have hr : ¬ (f < 0 ∨ 4096 < f) := by (simp at c3; omega)
  refine Zk (Zs (Zq rfl (QW.load_box 2 ty25 (.tmp rfl) rfl (take_at xl rfl) xl) (Zq rfl (QW.load_box 1 ty31 (.tmp rfl) rfl rfl rfl) (Zq rfl (QW.move (.tmp rfl)) (Zq rfl (QW.call gofn25 (.cons (.tmp rfl) (.cons (.tmp rfl) (.cons (.tmp rfl) .nil))) (rrun_ok (s := ⟨⟨ka, ua, ta, va, ia⟩, ⟨kb, ub, tb, vb, ib⟩, ⟨kc, uc, tc, vc, ic⟩⟩) Xc.self hew (EX.fine_of he) (ScT.good_of hw h3) ⟨by omega, by omega⟩)) (Zq rfl (QW.extract (.tmp rfl) rfl) (Zq rfl (QW.extract (.tmp rfl) rfl) (Zq rfl (QW.extract (.tmp rfl) rfl) (JL.store_boxF 0 ty29 (.tmp rfl) rfl (.tmp rfl) rfl vl rfl rfl ?_)))))))))
  exact Zq rfl (QW.assign (.tmp rfl)) (Zq rfl (QW.assign (.tmp rfl)) (Zn (J.ret (Zr [.k, .k, .k] (RetEv.three rfl (REv.cell 0 ty29 rfl rfl (take_at vl rfl) vl lr) (REv.tmp rfl lr) (REv.tmp rfl lr)) rfl ⟨congrArg (fun r => Res.ret (runAV r)) (evalT_r he h3 hr).symm, rfl⟩))))
end Go.Proofs.YtjhonjdhanlbkaaGreat.J

/- The laws of reckoning: the small ones; EvalMay, EvalFuel. -/
namespace Go.Proofs.YtjhonjdhanlbkaaGreat.J
open Go Go.RowKit
set_option maxRecDepth 10000
set_option maxHeartbeats 4000000
def xeN : EX := .mk 11 0 [] [.mk 3 4607182418800017408 [] [], .mk 3 4611686018427387904 [] []]
theorem xeN_wf : xeN.wf := .mk (by decide) (by decide) (by decide) (by decide) (fun x h => by simp at h; rcases h with rfl | rfl <;> exact .mk (by decide) (by decide) (by decide) (by decide) (fun _ h => by cases h))
def scN : ScT := ⟨.nil, .nil, .nil⟩
theorem scN_wf : scN.st.wf ∧ scN.ev.wf ∧ scN.it.wf := ⟨V.wf_nil, V.wf_nil, V.wf_nil⟩
theorem add12 : arithN .add 4607182418800017408 4611686018427387904 = 4613937818241073152 := by kernel_rfl
theorem evs_cons {x : EX} {r : List EX} {s : ScT} {f f1 f2 : Int} {v : V} {vs : List V} (h : x.ev s f = .ok (v, f1)) (h2 : EX.evs r s f1 = .ok (vs, f2)) : EX.evs (x :: r) s f = .ok (v :: vs, f2) := by
  rw [EX.evs, h]; simp only []; rw [h2]
theorem xeN_ok : evalT xeN scN 5 = (.nu 4613937818241073152, 2, 0) := by
  have h1 : xeN.err = 0 := by kernel_rfl
  have h2 : scN.st.err = 0 ∧ scN.ev.err = 0 ∧ scN.it.err = 0 := by decide
  rw [evalT_r h1 h2 (by decide)]
  have h3 : EX.evs xeN.args scN 4 = .ok ([.nu 4607182418800017408, .nu 4611686018427387904], 2) := by
    show EX.evs [.mk 3 4607182418800017408 [] [], .mk 3 4611686018427387904 [] []] scN 4 = _
    exact evs_cons (f1 := 3) (ev_3 (by decide)) (evs_cons (f1 := 2) (ev_3 (by decide)) (by rw [EX.evs]))
  refine runT_ok ((ev_pl (by decide) (by decide)).trans (plE_ok h3 ?_))
  show plainE 11 [] [.nu 4607182418800017408, .nu 4611686018427387904] = _
  rw [pe11 (by decide)]
  show Except.ok (V.nu (arithN .add 4607182418800017408 4611686018427387904)) = _
  rw [add12]
theorem xeN_le {F : List (Value × AV)} : Le F (.agg [.c (.int .i64 11), .c (.int .u64 0), .c (str []), .sl true true et34 [(EX.mk 3 4607182418800017408 [] []).raw (.slice none 0 0), (EX.mk 3 4611686018427387904 [] []).raw (.slice none 0 0)]]) (.agg (xeN.cs true)) :=
  .aggL (.cons (.refl _) (.cons (.refl _) (.cons (.refl _) (.cons (.slL (fun h => h) rfl (EX.css_sz true xeN.args) (.cons (.refl _) (.cons (.refl _) (.cons (.refl _) (.cons (.nil true false _) (.cons (.refl _) (.cons (.refl _) (.cons (.refl _) (.cons (.nil true false _) .nil))))))))) .nil))))
theorem scN_le {F : List (Value × AV)} : Le F (.agg (zV ++ zV ++ zV)) (.agg scN.cs) :=
  .aggL (.cons (.refl _) (.cons (.refl _) (.cons (.refl _) (.cons (.nil false false _) (.cons (.nil false false _) (.cons (.refl _) (.cons (.refl _) (.cons (.refl _) (.cons (.nil false false _) (.cons (.nil false false _) (.cons (.refl _) (.cons (.refl _) (.cons (.refl _) (.cons (.nil false false _) (.cons (.nil false false _) .nil)))))))))))))))
theorem num15_ok (n : Int) : Fn Tryz.prog 14 [.c (.int .i64 n)] (.c (.int .i64 n)) := by
  refine AC.of_J Tryz.func14 rfl Tryz.ntmps14 rfl fun w0 A0 => ?_
  exact Zs (Zq rfl (QW.assign .const) (Zn (Zs (Zq rfl (QW.move (.tmp rfl)) (Zq rfl (QW.assign (.tmp rfl)) (Zn (J.ret (Zr [] (RetEv.one rfl (REv.tmp rfl lr)) rfl ⟨rfl, rfl⟩))))))))
theorem alive15_ok : Fn Tryz.prog 17 [] (.c (.bool true)) := by
  refine AC.of_J Tryz.func17 rfl Tryz.ntmps17 rfl fun w0 A0 => ?_
  refine Zs (Zq rfl (QW.assign .const) (Zn (Zs (Zq rfl (QW.assign .const) (Zq rfl (QW.assign .const) (Zn (Zs (Zq rfl (QW.move (.tmp rfl)) (Zq rfl (QW.build (idx := [0, 1]) pl25 z25 rfl (.cons .const (.cons (.tmp rfl) .nil)) rfl rfl rfl rfl) ?_)))))))))
  refine Zq rfl (QW.move (.tmp rfl)) (Zq rfl (QW.build (idx := [0, 1]) pl25 z25 rfl (.cons .const (.cons (.tmp rfl) .nil)) rfl rfl rfl rfl) (Zq rfl (QW.buildSlice (idx := [0, 1]) (xs := [(EX.mk 3 4607182418800017408 [] []).raw (.slice none 0 0), (EX.mk 3 4611686018427387904 [] []).raw (.slice none 0 0)]) sl23 el25 z25 rfl (.cons (.tmp rfl) (.cons (.tmp rfl) .nil)) rfl rfl rfl rfl rfl rfl rfl rfl rfl) (Zq rfl (QW.build (idx := [0, 3]) pl25 z25 rfl (.cons .const (.cons (.tmp rfl) .nil)) rfl rfl rfl rfl) (Zq rfl (QW.call gofn9 (.cons (Ev.le (.tmp rfl) (xeN_le)) .nil) (of14_ok (fr := true) (v := xeN) Xc.self xeN_wf)) (Zq rfl (QW.build (idx := []) pl36 z36 rfl .nil rfl rfl rfl rfl) (Zq rfl (QW.call gofn11 (.cons (.tmp rfl) (.cons (Ev.le (.tmp rfl) (scN_le)) (.cons .const .nil))) (xeN_ok ▸ eval_ok (fr := true) (e := xeN) Xc.self xeN_wf (s := scN) scN_wf (f := 5) (by decide))) ?_))))))
  refine Zq rfl (QW.move (.tmp rfl)) (Zq rfl (QW.extract (.tmp rfl) rfl) (Zq rfl (QW.extract (.tmp rfl) rfl) (Zq rfl (QW.extract (.tmp rfl) rfl) (JL.alloc z29 rfl rfl fun b3 => JL.store_boxF 0 ty29 (.tmp rfl) rfl (.tmp rfl) rfl rfl rfl rfl (Zq rfl (QW.assign (.tmp rfl)) (Zq rfl (QW.assign (.tmp rfl)) (Zn (Zs ?_))))))))
  refine Zq rfl (QW.move (.tmp rfl)) (Zq rfl (QW.call gofn14 (.cons (.tmp rfl) .nil) (num15_ok _)) (Zq rfl (QW.eql (.tmp rfl) .const) (Zq rfl (QW.move (.tmp rfl)) (Zg rfl (fun hg => (QW.field_ptr fo29_0 (.tmp rfl) rfl)) (Zg rfl (fun hg => (QW.load_box1 0 ty3 (.when rfl hg) rfl rfl)) (Zg rfl (fun hg => (QW.eql (.when rfl hg) .const)) (Zq rfl (QW.pick_and (.tmp rfl) (.tmp rfl)) (Zq rfl (QW.move (.tmp rfl)) (Zg rfl (fun hg => (QW.field_ptr fo29_1 (.tmp rfl) rfl)) ?_)))))))))
  exact Zg rfl (fun hg => (QW.load_box1 0 ty22 (.when rfl hg) rfl rfl)) (Zg rfl (fun hg => (QW.eql (.when rfl hg) .const)) (Zq rfl (QW.pick_and (.tmp rfl) (.tmp rfl)) (Zq rfl (QW.move (.tmp rfl)) (Zg rfl (fun hg => (QW.move (.tmp rfl))) (Zg rfl (fun hg => (QW.eql (.when rfl hg) .const)) (Zq rfl (QW.pick_and (.tmp rfl) (.tmp rfl)) (Zq rfl (QW.assign (.tmp rfl)) (Zn (J.ret (Zr [.k] (RetEv.one rfl (REv.tmp rfl lr)) rfl ⟨rfl, rfl⟩))))))))))
end Go.Proofs.YtjhonjdhanlbkaaGreat.J

/- EvalMay. -/
namespace Go.Proofs.YtjhonjdhanlbkaaGreat.J
open Go Go.RowKit
set_option maxRecDepth 10000
set_option maxHeartbeats 4000000
theorem evalT_wf {e : EX} {s : ScT} (hew : e.wf) (hw : s.st.wf ∧ s.ev.wf ∧ s.it.wf) (f : Int) : (evalT e s f).1.wf ∧ ((evalT e s f).2.2 ≠ 0 → evalT e s f = (.nil, 0, (evalT e s f).2.2)) ∧ ((evalT e s f).2.2 = 0 → (evalT e s f).1.err = 0 ∧ 0 ≤ (evalT e s f).2.1 ∧ (evalT e s f).2.1 < f) := by
  rcases evalT_cases e s f with ⟨c, hc, h⟩ | ⟨v, f', h1, h, h2, h3, h4, h5⟩
  · rw [h]; exact ⟨V.wf_nil, fun _ => rfl, fun h => absurd h hc⟩
  · obtain ⟨a1, a2, a3⟩ := EX.ev_good e s f (EX.fine_of h2) hew (ScT.good_of hw h3) v f' h1
    rw [h]
    exact ⟨a1.wf, fun h => absurd rfl h, fun _ => ⟨a1.err, a3, by show f' < f; omega⟩⟩
end Go.Proofs.YtjhonjdhanlbkaaGreat.J

/- EvalTells. -/
namespace Go.Proofs.YtjhonjdhanlbkaaGreat.J
open Go Go.RowKit
set_option maxRecDepth 10000
set_option maxHeartbeats 4000000
end Go.Proofs.YtjhonjdhanlbkaaGreat.J

