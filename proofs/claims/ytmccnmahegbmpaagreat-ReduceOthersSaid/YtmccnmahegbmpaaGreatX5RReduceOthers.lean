/- Texts of this proof, laid together. -/
import Derived.Test.YtmccnmahegbmpaaGreatX4RReduceOthers
import Derived.Laws.MakeOwn
set_option linter.unusedVariables false
set_option linter.unusedSimpArgs false
/- Walks: the machine reckons an expression. -/
namespace Go.Proofs.YtmccnmahegbmpaaGreat.J
open Go Go.RowKit
set_option maxRecDepth 10000
set_option maxHeartbeats 4000000
theorem meval_n  : ∀ (n : Nat), EvIH n := by
  intro n
  induction n with
  | zero => intro e s f b fr hw hf hs h0 hn; exact absurd hn (by have := EX.sz_pos e; omega)
  | succ n ih =>
    intro e s f b fr hw hf hs h0 hn
    obtain ⟨o, bb, t, l⟩ := e
    obtain ⟨ho0, ho30, hl8, hoa⟩ := EX.ok_args hf.part
    obtain ⟨-, -, htr, hl56, hwl⟩ := hw.inv
    have hfl : ∀ x ∈ l, x.Fine := fun x hx => hf.kid hx
    have hsz : ∀ x ∈ l, x.sz ≤ n := fun x hx => by
      obtain ⟨i, hi, rfl⟩ := List.getElem_of_mem hx
      exact EX.sz_get hn hi
    refine AC.of_J Tryz.func87 rfl Tryz.ntmps87 rfl fun w0 A0 => ?_
    refine Zs (JL.box_agg (.tmp rfl) rfl fun b3 => JL.alloc z26 rfl rfl fun b4 => Zn (Zs (Zq rfl (QW.move (.tmp rfl)) (Zq rfl (QW.nil_ptr (.tmp rfl)) (Zq rfl (QW.field_ptr fo157_1 (.tmp rfl) rfl) (Zq rfl (QW.load_box1 2 ty3 (.tmp rfl) rfl mb_fuel) (Zq rfl (QW.gtr (.tmp rfl) .const) ?_)))))))
    refine JL.callPF [] gofn95 rfl Lent.nil (fun _ => (.cons (.tmp rfl) (.cons .const .nil))) (nd_ok _ _) (.inl rfl) (fun k13 x13 o13 h13 => ?_) (fun k13 => ?_)
    rotate_left
    · skip
      refine thenQ.p ?_
      exact ⟨_, selP [.k, .k, .k] _, _, rfl, rfl, sel_perm [.k, .k, .k] _, EvR.er (c := 83) (ev_lo (by simp at k13; omega)) (by decide)⟩
    obtain ⟨rfl, rfl⟩ := h13
    refine Zn (Zs ?_)
    have hlo : ¬ f < 1 := by (simp at k13; omega)
    have h1 : okF (f - 1) := ⟨by omega, by have := h0.2; omega⟩
    refine Zq rfl (QW.move (.tmp rfl)) (Zq rfl (QW.nil_ptr (.tmp rfl)) (Zq rfl (QW.field_ptr fo157_1 (.tmp rfl) rfl) (Zq rfl (QW.load_box1 2 ty3 (.tmp rfl) rfl mb_fuel) (Zq rfl (QW.sub (.tmp rfl) .const (w64 (by have := h0.2; omega))) ?_))))
    refine Zq rfl (QW.nil_ptr (.tmp rfl)) (Zq rfl (QW.field_ptr fo157_1 (.tmp rfl) rfl) (JL.store_box 2 ty3 (.tmp rfl) rfl (.tmp rfl) rfl rfl (by rw [mb_len]; rfl) mb_setf rfl ?_))
    refine Zn (J.seq (Zs (Zq rfl (QW.field_ptr fo79_0 (.tmp rfl) rfl) (Zq rfl (QW.load_box1 1 ty3 (.tmp rfl) rfl rfl) (Zn (J.block (Zs (Zq rfl (QW.eql (.tmp rfl) .const) (Zq rfl (QW.assign (.tmp rfl)) ?_)))))))))
    refine Zn ?_
    refine J.cond (.tmp rfl) (fun c1 => ?_) (fun c1 => ?_)
    · skip
      obtain rfl : o = 0 := by simpa using c1
      exact Zs (Zq rfl (QW.build (idx := []) pl26 z26 rfl .nil rfl rfl rfl rfl) (JL.store_boxF 0 ty26 (.tmp rfl) rfl (.tmp rfl) rfl rfl rfl rfl (Zn (J.ret (blkQ.r (thenQ.r (Zr [.k, .k, .p] (RetEv.one rfl (REv.cell 0 ty26 rfl rfl rfl rfl (.aggL (.cons lr (.cons lr (.cons lr (.cons (.nil false false _) (.cons (.nil false false _) .nil)))))))) rfl (EvR.ok (v := .nil) (ev_0 hlo)))))))))
    have n0 : ¬ o = 0 := by simpa using c1
    refine J.seq (Zs (Zq rfl (QW.eql (.tmp rfl) .const) (Zq rfl (QW.assign (.tmp rfl)) (Zn ?_))))
    refine J.cond (.tmp rfl) (fun c2 => ?_) (fun c2 => ?_)
    · skip
      obtain rfl : o = 1 := by simpa using c2
      refine Zk ?_
      refine J.cond (.tmp rfl) (fun c3 => ?_) (fun c3 => absurd c3 (by rw [c2]; decide))
      exact Zs (Zq rfl (QW.field_ptr fo79_0 (.tmp rfl) rfl) (Zq rfl (QW.load_box1 1 ty3 (.tmp rfl) rfl rfl) (Zq rfl (QW.eql (.tmp rfl) .const) (Zq rfl (QW.call gofn96 (.cons (.tmp rfl) .nil) (boolean_ok _)) (JL.store_boxF 0 ty26 (.tmp rfl) rfl (.tmp rfl) rfl rfl rfl rfl (Zn (J.ret (blkQ.r (thenQ.r (Zr [.k, .k, .p] (RetEv.one rfl (REv.cell 0 ty26 rfl rfl rfl rfl lr)) rfl (EvR.ok (v := .tr false) (ev_1 hlo))))))))))))
    have n1 : ¬ o = 1 := by simpa using c2
    refine J.region_lit (Zq rfl (QW.eql (.tmp rfl) .const) (Zq rfl (QW.assign (.tmp rfl)) (Zn ?_)))
    refine J.cond (.tmp rfl) (fun c3 => ?_) (fun c3 => ?_)
    · skip
      obtain rfl : o = 2 := by simpa using c3
      exact Zs (Zq rfl (QW.field_ptr fo79_0 (.tmp rfl) rfl) (Zq rfl (QW.load_box1 1 ty3 (.tmp rfl) rfl rfl) (Zq rfl (QW.eql (.tmp rfl) .const) (Zq rfl (QW.call gofn96 (.cons (.tmp rfl) .nil) (boolean_ok _)) (JL.store_boxF 0 ty26 (.tmp rfl) rfl (.tmp rfl) rfl rfl rfl rfl (Zn (J.ret (blkQ.r (thenQ.r (Zr [.k, .k, .p] (RetEv.one rfl (REv.cell 0 ty26 rfl rfl rfl rfl lr)) rfl (EvR.ok (v := .tr true) (ev_2 hlo))))))))))))
    have n2 : ¬ o = 2 := by simpa using c3
    refine Zs (Zq rfl (QW.eql (.tmp rfl) .const) (Zq rfl (QW.assign (.tmp rfl)) (Zn ?_)))
    refine J.cond (.tmp rfl) (fun c4 => ?_) (fun c4 => ?_)
    · skip
      obtain rfl : o = 3 := by simpa using c4
      exact Zs (Zq rfl (QW.field_ptr fo79_1 (.tmp rfl) rfl) (Zq rfl (QW.load_box1 1 ty22 (.tmp rfl) rfl rfl) (Zq rfl (QW.call gofn97 (.cons (.tmp rfl) .nil) (nof_ok _)) (JL.store_boxF 0 ty26 (.tmp rfl) rfl (.tmp rfl) rfl rfl rfl rfl (Zn (J.ret (blkQ.r (thenQ.r (Zr [.k, .k, .p] (RetEv.one rfl (REv.cell 0 ty26 rfl rfl rfl rfl lr)) rfl (EvR.ok (v := .nu bb) (ev_3 hlo)))))))))))
    have n3 : ¬ o = 3 := by simpa using c4
    refine Zs (Zq rfl (QW.eql (.tmp rfl) .const) (Zq rfl (QW.assign (.tmp rfl)) (Zn ?_)))
    refine J.cond (.tmp rfl) (fun c5 => ?_) (fun c5 => ?_)
    · skip
      obtain rfl : o = 4 := by simpa using c5
      exact Zs (Zq rfl (QW.field_ptr fo79_2 (.tmp rfl) rfl) (Zq rfl (QW.load_box1 1 ty9 (.tmp rfl) rfl rfl) (Zq rfl (QW.build (idx := [0, 2]) pl26 z26 rfl (.cons .const (.cons (.tmp rfl) .nil)) rfl rfl rfl rfl) (JL.store_boxF 0 ty26 (.tmp rfl) rfl (.tmp rfl) rfl rfl rfl rfl (Zn (J.ret (blkQ.r (thenQ.r (Zr [.k, .k, .p] (RetEv.one rfl (REv.cell 0 ty26 rfl rfl rfl rfl (.aggL (.cons lr (.cons lr (.cons lr (.cons (.nil false false _) (.cons (.nil false false _) .nil)))))))) rfl (EvR.ok (v := .tx t) (ev_4 hlo)))))))))))
    have n4 : ¬ o = 4 := by simpa using c5
    refine Zs (Zq rfl (QW.eql (.tmp rfl) .const) (Zq rfl (QW.assign (.tmp rfl)) (Zn ?_)))
    refine J.cond (.tmp rfl) (fun c6 => ?_) (fun c6 => ?_)
    · skip
      obtain rfl : o = 5 := by simpa using c6
      refine Zs (Zq rfl (QW.move (.tmp rfl)) (Zq rfl (QW.nil_ptr (.tmp rfl)) (Zq rfl (QW.field_ptr fo157_0 (.tmp rfl) rfl) (Zq rfl (QW.field_ptr fo117_0 (.tmp rfl) rfl) (Zq rfl (QW.load_box 2 ty26 (.tmp rfl) rfl (mb_at 0) vl) (JL.store_boxF 0 ty26 (.tmp rfl) rfl (.tmp rfl) rfl vl rfl rfl (Zn (J.ret (blkQ.r ?_)))))))))
      exact thenQ.r (Zr [.k, .k, .p] (RetEv.one rfl (REv.cell 0 ty26 rfl rfl (take_at vl rfl) vl lr)) rfl (EvR.ok (v := s.st) (ev_5 hlo)))
    have n5 : ¬ o = 5 := by simpa using c6
    refine Zs (Zq rfl (QW.eql (.tmp rfl) .const) (Zq rfl (QW.assign (.tmp rfl)) (Zn ?_)))
    refine J.cond (.tmp rfl) (fun c7 => ?_) (fun c7 => ?_)
    · skip
      obtain rfl : o = 6 := by simpa using c7
      refine Zs (Zq rfl (QW.move (.tmp rfl)) (Zq rfl (QW.nil_ptr (.tmp rfl)) (Zq rfl (QW.field_ptr fo157_0 (.tmp rfl) rfl) (Zq rfl (QW.field_ptr fo117_1 (.tmp rfl) rfl) (Zq rfl (QW.load_box 2 ty26 (.tmp rfl) rfl (mb_at 1) vl) (JL.store_boxF 0 ty26 (.tmp rfl) rfl (.tmp rfl) rfl vl rfl rfl (Zn (J.ret (blkQ.r ?_)))))))))
      exact thenQ.r (Zr [.k, .k, .p] (RetEv.one rfl (REv.cell 0 ty26 rfl rfl (take_at vl rfl) vl lr)) rfl (EvR.ok (v := s.ev) (ev_6 hlo)))
    have n6 : ¬ o = 6 := by simpa using c7
    refine Zs (Zq rfl (QW.eql (.tmp rfl) .const) (Zq rfl (QW.assign (.tmp rfl)) (Zn ?_)))
    refine J.cond (.tmp rfl) (fun c8 => ?_) (fun c8 => ?_)
    · skip
      obtain rfl : o = 7 := by simpa using c8
      refine Zs (Zq rfl (QW.move (.tmp rfl)) (Zq rfl (QW.nil_ptr (.tmp rfl)) (Zq rfl (QW.field_ptr fo157_0 (.tmp rfl) rfl) (Zq rfl (QW.field_ptr fo117_2 (.tmp rfl) rfl) (Zq rfl (QW.load_box 2 ty26 (.tmp rfl) rfl (mb_at 2) vl) (JL.store_boxF 0 ty26 (.tmp rfl) rfl (.tmp rfl) rfl vl rfl rfl (Zn (J.ret (blkQ.r ?_)))))))))
      exact thenQ.r (Zr [.k, .k, .p] (RetEv.one rfl (REv.cell 0 ty26 rfl rfl (take_at vl rfl) vl lr)) rfl (EvR.ok (v := s.it) (ev_7 hlo)))
    have n7 : ¬ o = 7 := by simpa using c8
    refine Zs (Zq rfl (QW.eql (.tmp rfl) .const) (Zq rfl (QW.assign (.tmp rfl)) (Zn ?_)))
    refine J.cond (.tmp rfl) (fun c9 => ?_) (fun c9 => ?_)
    · skip
      obtain rfl : o = 18 := by simpa using c9
      obtain ⟨a, y, rfl⟩ := etwo (l := l) (by omega)
      refine Zs (Zq rfl (QW.move (.tmp rfl)) (Zq rfl (QW.field_ptr fo79_3 (.tmp rfl) rfl) (Zq rfl (QW.load_box1 1 ty77 (.tmp rfl) rfl rfl) (Zq rfl (QW.index_sl sl77 ty79 rfl (.tmp rfl) .const rfl (by rfl)) ?_))))
      refine Zq rfl (QW.load_ref ty79 (.tmp rfl) (take_at0 xl rfl) xl) ?_
      refine JL.callPF [.k, .k, .p] gofn98 rfl Lent.nil (fun _ => (.cons (.tmp rfl) (.cons (.tmp rfl) .nil))) (mtruth_ok (e := a) (f := f - 1) ih Xc.self (hwl _ (by simp)) (hfl _ (by simp)) hs h1 (hsz _ (by simp))) (.inl rfl) (fun k71 x71 o71 h71 => ?_) (fun k71 => ?_)
      rotate_left
      · skip
        refine thenQ.p (blkQ.p (thenQ.p ?_))
        exact ⟨_, selP [.k, .k] _, _, rfl, rfl, sel_perm [.k, .k] _, EvR.er ((ev_18 hlo).trans (ao_er (er_of k71))) k71⟩
      obtain ⟨q71, f71, hq71, rfl, rfl⟩ := h71
      have h2 : okF f71 := tr_okF (hwl _ (by simp)) (hfl _ (by simp)) hs h1 hq71
      refine Zq rfl (QW.move (.tmp rfl)) ?_
      by_cases hs_q71 : q71 = false
      · subst hs_q71
        refine JL.gskip rfl rfl rfl rfl (JL.gskip rfl rfl rfl rfl (JL.gskip rfl rfl rfl rfl (JL.gskip rfl rfl rfl rfl (JL.gskip rfl rfl rfl rfl (JL.gskip rfl rfl rfl rfl (Zq rfl (QW.pick_andF (.tmp rfl)) (Zq rfl (QW.call gofn96 (.cons (.tmp rfl) .nil) (boolean_ok _)) (JL.store_boxF 0 ty26 (.tmp rfl) rfl (.tmp rfl) rfl rfl rfl rfl (Zn ?_)))))))))
        exact J.ret (blkQ.r (thenQ.r (Zr [.k, .k, .p] (RetEv.one rfl (REv.cell 0 ty26 rfl rfl rfl rfl lr)) rfl (EvR.ok (v := .tr false) ((ev_18 hlo).trans (ao_1 hq71))))))
      obtain rfl : q71 = true := by simpa using hs_q71
      refine JL.ungd rfl rfl rfl (Zq rfl (QW.move (.tmp rfl)) (JL.ungd rfl rfl rfl (Zq rfl (QW.field_ptr fo79_3 (.tmp rfl) rfl) (JL.ungd rfl rfl rfl (Zq rfl (QW.load_box1 1 ty77 (.tmp rfl) rfl rfl) (JL.ungd rfl rfl rfl (Zq rfl (QW.index_sl sl77 ty79 rfl (.tmp rfl) .const rfl (by rfl)) ?_)))))))
      refine JL.ungd rfl rfl rfl (Zq rfl (QW.load_ref ty79 (.tmp rfl) (take_at0 xl rfl) xl) (JL.ungd rfl rfl rfl ?_))
      refine JL.callPF [.k, .k, .p] gofn98 rfl Lent.nil (fun _ => (.cons (.tmp rfl) (.cons (.tmp rfl) .nil))) (mtruth_ok (e := y) (f := f71) ih Xc.self (hwl _ (by simp)) (hfl _ (by simp)) hs h2 (hsz _ (by simp))) (.inl rfl) (fun k78 x78 o78 h78 => ?_) (fun k78 => ?_)
      rotate_left
      · skip
        refine thenQ.p (blkQ.p (thenQ.p ?_))
        exact ⟨_, selP [.k, .k] _, _, rfl, rfl, sel_perm [.k, .k] _, EvR.er ((ev_18 hlo).trans (ao_2 (k := false) hq71 (er_of k78))) k78⟩
      obtain ⟨q78, f78, hq78, rfl, rfl⟩ := h78
      exact Zq rfl (QW.pick_andT (.tmp rfl) (.tmp rfl)) (Zq rfl (QW.call gofn96 (.cons (.tmp rfl) .nil) (boolean_ok _)) (JL.store_boxF 0 ty26 (.tmp rfl) rfl (.tmp rfl) rfl rfl rfl rfl (Zn (J.ret (blkQ.r (thenQ.r (Zr [.k, .k, .p] (RetEv.one rfl (REv.cell 0 ty26 rfl rfl rfl rfl lr)) rfl (EvR.ok (v := .tr q78) ((ev_18 hlo).trans (ao_3 (k := false) hq71 hq78))))))))))
    have n18 : ¬ o = 18 := by simpa using c9
    refine Zs (Zq rfl (QW.eql (.tmp rfl) .const) (Zq rfl (QW.assign (.tmp rfl)) (Zn ?_)))
    refine J.cond (.tmp rfl) (fun c10 => ?_) (fun c10 => ?_)
    · skip
      obtain rfl : o = 19 := by simpa using c10
      obtain ⟨a, y, rfl⟩ := etwo (l := l) (by omega)
      refine Zs (Zq rfl (QW.move (.tmp rfl)) (Zq rfl (QW.field_ptr fo79_3 (.tmp rfl) rfl) (Zq rfl (QW.load_box1 1 ty77 (.tmp rfl) rfl rfl) (Zq rfl (QW.index_sl sl77 ty79 rfl (.tmp rfl) .const rfl (by rfl)) ?_))))
      refine Zq rfl (QW.load_ref ty79 (.tmp rfl) (take_at0 xl rfl) xl) ?_
      refine JL.callPF [.k, .k, .p] gofn98 rfl Lent.nil (fun _ => (.cons (.tmp rfl) (.cons (.tmp rfl) .nil))) (mtruth_ok (e := a) (f := f - 1) ih Xc.self (hwl _ (by simp)) (hfl _ (by simp)) hs h1 (hsz _ (by simp))) (.inl rfl) (fun k88 x88 o88 h88 => ?_) (fun k88 => ?_)
      rotate_left
      · skip
        refine thenQ.p (blkQ.p (thenQ.p ?_))
        exact ⟨_, selP [.k, .k] _, _, rfl, rfl, sel_perm [.k, .k] _, EvR.er ((ev_19 hlo).trans (ao_er (er_of k88))) k88⟩
      obtain ⟨q88, f88, hq88, rfl, rfl⟩ := h88
      have h2 : okF f88 := tr_okF (hwl _ (by simp)) (hfl _ (by simp)) hs h1 hq88
      refine Zq rfl (QW.move (.tmp rfl)) ?_
      by_cases hs_q88 : q88 = true
      · subst hs_q88
        refine JL.gskip rfl rfl rfl rfl (JL.gskip rfl rfl rfl rfl (JL.gskip rfl rfl rfl rfl (JL.gskip rfl rfl rfl rfl (JL.gskip rfl rfl rfl rfl (JL.gskip rfl rfl rfl rfl (Zq rfl (QW.pick_orT (.tmp rfl)) (Zq rfl (QW.call gofn96 (.cons (.tmp rfl) .nil) (boolean_ok _)) (JL.store_boxF 0 ty26 (.tmp rfl) rfl (.tmp rfl) rfl rfl rfl rfl (Zn ?_)))))))))
        exact J.ret (blkQ.r (thenQ.r (Zr [.k, .k, .p] (RetEv.one rfl (REv.cell 0 ty26 rfl rfl rfl rfl lr)) rfl (EvR.ok (v := .tr true) ((ev_19 hlo).trans (ao_1 hq88))))))
      obtain rfl : q88 = false := by simpa using hs_q88
      refine JL.ungd rfl rfl rfl (Zq rfl (QW.move (.tmp rfl)) (JL.ungd rfl rfl rfl (Zq rfl (QW.field_ptr fo79_3 (.tmp rfl) rfl) (JL.ungd rfl rfl rfl (Zq rfl (QW.load_box1 1 ty77 (.tmp rfl) rfl rfl) (JL.ungd rfl rfl rfl (Zq rfl (QW.index_sl sl77 ty79 rfl (.tmp rfl) .const rfl (by rfl)) ?_)))))))
      refine JL.ungd rfl rfl rfl (Zq rfl (QW.load_ref ty79 (.tmp rfl) (take_at0 xl rfl) xl) (JL.ungd rfl rfl rfl ?_))
      refine JL.callPF [.k, .k, .p] gofn98 rfl Lent.nil (fun _ => (.cons (.tmp rfl) (.cons (.tmp rfl) .nil))) (mtruth_ok (e := y) (f := f88) ih Xc.self (hwl _ (by simp)) (hfl _ (by simp)) hs h2 (hsz _ (by simp))) (.inl rfl) (fun k95 x95 o95 h95 => ?_) (fun k95 => ?_)
      rotate_left
      · skip
        refine thenQ.p (blkQ.p (thenQ.p ?_))
        exact ⟨_, selP [.k, .k] _, _, rfl, rfl, sel_perm [.k, .k] _, EvR.er ((ev_19 hlo).trans (ao_2 (k := true) hq88 (er_of k95))) k95⟩
      obtain ⟨q95, f95, hq95, rfl, rfl⟩ := h95
      exact Zq rfl (QW.pick_orF (.tmp rfl) (.tmp rfl)) (Zq rfl (QW.call gofn96 (.cons (.tmp rfl) .nil) (boolean_ok _)) (JL.store_boxF 0 ty26 (.tmp rfl) rfl (.tmp rfl) rfl rfl rfl rfl (Zn (J.ret (blkQ.r (thenQ.r (Zr [.k, .k, .p] (RetEv.one rfl (REv.cell 0 ty26 rfl rfl rfl rfl lr)) rfl (EvR.ok (v := .tr q95) ((ev_19 hlo).trans (ao_3 (k := true) hq88 hq95))))))))))
    have n19 : ¬ o = 19 := by simpa using c10
    refine Zs (Zq rfl (QW.eql (.tmp rfl) .const) (Zq rfl (QW.assign (.tmp rfl)) (Zn ?_)))
    refine J.cond (.tmp rfl) (fun c11 => ?_) (fun c11 => ?_)
    · skip
      obtain rfl : o = 21 := by simpa using c11
      obtain ⟨a, y, z, rfl⟩ := ethree (l := l) (by omega)
      refine J.seq (Zs (Zq rfl (QW.move (.tmp rfl)) (Zq rfl (QW.field_ptr fo79_3 (.tmp rfl) rfl) (Zq rfl (QW.load_box1 1 ty77 (.tmp rfl) rfl rfl) (Zq rfl (QW.index_sl sl77 ty79 rfl (.tmp rfl) .const rfl (by rfl)) ?_)))))
      refine Zq rfl (QW.load_ref ty79 (.tmp rfl) (take_at0 xl rfl) xl) ?_
      refine JL.callPF [.k, .k, .p] gofn98 rfl Lent.nil (fun _ => (.cons (.tmp rfl) (.cons (.tmp rfl) .nil))) (mtruth_ok (e := a) (f := f - 1) ih Xc.self (hwl _ (by simp)) (hfl _ (by simp)) hs h1 (hsz _ (by simp))) (.inl rfl) (fun k105 x105 o105 h105 => ?_) (fun k105 => ?_)
      rotate_left
      · skip
        refine thenQ.p (thenQ.p (blkQ.p (thenQ.p ?_)))
        exact ⟨_, selP [.k, .k] _, _, rfl, rfl, sel_perm [.k, .k] _, EvR.er ((ev_21 hlo).trans (if_er (er_of k105))) k105⟩
      obtain ⟨q105, f105, hq105, rfl, rfl⟩ := h105
      refine Zn ?_
      refine J.cond (.tmp rfl) (fun c12 => ?_) (fun c12 => ?_)
      · skip
        obtain rfl : q105 = true := c12
        have h2 : okF f105 := tr_okF (hwl _ (by simp)) (hfl _ (by simp)) hs h1 hq105
        refine Zs (Zq rfl (QW.move (.tmp rfl)) (Zq rfl (QW.field_ptr fo79_3 (.tmp rfl) rfl) (Zq rfl (QW.load_box1 1 ty77 (.tmp rfl) rfl rfl) (Zq rfl (QW.index_sl sl77 ty79 rfl (.tmp rfl) .const rfl (by rfl)) ?_))))
        refine Zq rfl (QW.load_ref ty79 (.tmp rfl) (take_at0 xl rfl) xl) ?_
        refine JL.callPF [.k, .k, .p] gofn87 rfl Lent.nil (fun _ => (.cons (.tmp rfl) (.cons (.tmp rfl) .nil))) (ih y s f105 b fr (hwl _ (by simp)) (hfl _ (by simp)) hs h2 (hsz _ (by simp))) (.inl rfl) (fun k111 x111 o111 h111 => ?_) (fun k111 => ?_)
        rotate_left
        · skip
          refine thenQ.p (thenQ.p (blkQ.p (thenQ.p ?_)))
          exact ⟨_, selP [.k, .k] _, _, rfl, rfl, sel_perm [.k, .k] _, EvR.er ((ev_21 hlo).trans ((if_t hq105).trans (er_of k111))) k111⟩
        obtain ⟨v111, f111, hv111, rfl, rfl⟩ := h111
        exact JL.store_boxF 0 ty26 (.tmp rfl) rfl (.tmp rfl) rfl vl rfl rfl (Zn (J.ret (thenQ.r (blkQ.r (thenQ.r (Zr [.k, .k, .p] (RetEv.one rfl (REv.cell 0 ty26 rfl rfl (take_at vl rfl) vl lr)) rfl (EvR.ok ((ev_21 hlo).trans ((if_t hq105).trans hv111)))))))))
      obtain rfl : q105 = false := c12
      have h2 : okF f105 := tr_okF (hwl _ (by simp)) (hfl _ (by simp)) hs h1 hq105
      refine Zk (Zs (Zq rfl (QW.move (.tmp rfl)) (Zq rfl (QW.field_ptr fo79_3 (.tmp rfl) rfl) (Zq rfl (QW.load_box1 1 ty77 (.tmp rfl) rfl rfl) (Zq rfl (QW.index_sl sl77 ty79 rfl (.tmp rfl) .const rfl (by rfl)) ?_)))))
      refine Zq rfl (QW.load_ref ty79 (.tmp rfl) (take_at0 xl rfl) xl) ?_
      refine JL.callPF [.k, .k, .p] gofn87 rfl Lent.nil (fun _ => (.cons (.tmp rfl) (.cons (.tmp rfl) .nil))) (ih z s f105 b fr (hwl _ (by simp)) (hfl _ (by simp)) hs h2 (hsz _ (by simp))) (.inl rfl) (fun k117 x117 o117 h117 => ?_) (fun k117 => ?_)
      rotate_left
      · skip
        refine thenQ.p (blkQ.p (thenQ.p ?_))
        exact ⟨_, selP [.k, .k] _, _, rfl, rfl, sel_perm [.k, .k] _, EvR.er ((ev_21 hlo).trans ((if_f hq105).trans (er_of k117))) k117⟩
      obtain ⟨v117, f117, hv117, rfl, rfl⟩ := h117
      exact JL.store_boxF 0 ty26 (.tmp rfl) rfl (.tmp rfl) rfl vl rfl rfl (Zn (J.ret (blkQ.r (thenQ.r (Zr [.k, .k, .p] (RetEv.one rfl (REv.cell 0 ty26 rfl rfl (take_at vl rfl) vl lr)) rfl (EvR.ok ((ev_21 hlo).trans ((if_f hq105).trans hv117))))))))
    have n21 : ¬ o = 21 := by simpa using c11
    refine J.seq (Zs (Zq rfl (QW.eql (.tmp rfl) .const) (Zq rfl (QW.assign (.tmp rfl)) (Zn ?_))))
    refine J.cond (.tmp rfl) (fun c12 => ?_) (fun c12 => ?_)
    · skip
      have ho : o = 27 ∨ o = 28 ∨ o = 29 := by (have hh := c12; simp at hh; omega)
      obtain ⟨a, y, rfl⟩ := etwo (l := l) (by omega)
      refine Zk ?_
      refine J.cond (.tmp rfl) (fun c13 => ?_) (fun c13 => absurd c13 (by rw [c12]; decide))
      refine Zs (Zq rfl (QW.move (.tmp rfl)) (Zq rfl (QW.load_box 1 ty79 (.tmp rfl) rfl rfl rfl) ?_))
      refine JL.callPF [.k, .k, .p] gofn99 rfl Lent.nil (fun _ => (.cons (.tmp rfl) (.cons (.tmp rfl) .nil))) (mover_ok (f := f - 1) ih Xc.mk ho (hwl _ (by simp)) (hwl _ (by simp)) (hfl _ (by simp)) (hfl _ (by simp)) (hsz _ (by simp)) (hsz _ (by simp)) hs h1) (.inl rfl) (fun k124 x124 o124 h124 => ?_) (fun k124 => ?_)
      rotate_left
      · skip
        refine thenQ.p (blkQ.p (thenQ.p ?_))
        exact ⟨_, selP [.k, .k] _, _, rfl, rfl, sel_perm [.k, .k] _, EvR.er ((ev_over ho hlo).trans (er_of k124)) k124⟩
      obtain ⟨v124, f124, hv124, rfl, rfl⟩ := h124
      exact JL.store_boxF 0 ty26 (.tmp rfl) rfl (.tmp rfl) rfl vl rfl rfl (Zn (J.ret (blkQ.r (thenQ.r (Zr [.k, .k, .p] (RetEv.one rfl (REv.cell 0 ty26 rfl rfl (take_at vl rfl) vl lr)) rfl (EvR.ok ((ev_over ho hlo).trans hv124)))))))
    have n27 : ¬ o = 27 := by simpa using c12
    refine Zs (Zq rfl (QW.eql (.tmp rfl) .const) (Zq rfl (QW.assign (.tmp rfl)) (Zn ?_)))
    refine J.cond (.tmp rfl) (fun c13 => ?_) (fun c13 => ?_)
    · skip
      have ho : o = 27 ∨ o = 28 ∨ o = 29 := by (have hh := c13; simp at hh; omega)
      obtain ⟨a, y, rfl⟩ := etwo (l := l) (by omega)
      refine Zk ?_
      refine J.cond (.tmp rfl) (fun c14 => ?_) (fun c14 => absurd c14 (by rw [c13]; decide))
      refine Zs (Zq rfl (QW.move (.tmp rfl)) (Zq rfl (QW.load_box 1 ty79 (.tmp rfl) rfl rfl rfl) ?_))
      refine JL.callPF [.k, .k, .p] gofn99 rfl Lent.nil (fun _ => (.cons (.tmp rfl) (.cons (.tmp rfl) .nil))) (mover_ok (f := f - 1) ih Xc.mk ho (hwl _ (by simp)) (hwl _ (by simp)) (hfl _ (by simp)) (hfl _ (by simp)) (hsz _ (by simp)) (hsz _ (by simp)) hs h1) (.inl rfl) (fun k124 x124 o124 h124 => ?_) (fun k124 => ?_)
      rotate_left
      · skip
        refine thenQ.p (blkQ.p (thenQ.p ?_))
        exact ⟨_, selP [.k, .k] _, _, rfl, rfl, sel_perm [.k, .k] _, EvR.er ((ev_over ho hlo).trans (er_of k124)) k124⟩
      obtain ⟨v124, f124, hv124, rfl, rfl⟩ := h124
      exact JL.store_boxF 0 ty26 (.tmp rfl) rfl (.tmp rfl) rfl vl rfl rfl (Zn (J.ret (blkQ.r (thenQ.r (Zr [.k, .k, .p] (RetEv.one rfl (REv.cell 0 ty26 rfl rfl (take_at vl rfl) vl lr)) rfl (EvR.ok ((ev_over ho hlo).trans hv124)))))))
    have n28 : ¬ o = 28 := by simpa using c13
    refine J.region_lit (Zq rfl (QW.eql (.tmp rfl) .const) (Zq rfl (QW.assign (.tmp rfl)) (Zn ?_)))
    refine J.cond (.tmp rfl) (fun c14 => ?_) (fun c14 => ?_)
    · skip
      have ho : o = 27 ∨ o = 28 ∨ o = 29 := by (have hh := c14; simp at hh; omega)
      obtain ⟨a, y, rfl⟩ := etwo (l := l) (by omega)
      refine Zs (Zq rfl (QW.move (.tmp rfl)) (Zq rfl (QW.load_box 1 ty79 (.tmp rfl) rfl rfl rfl) ?_))
      refine JL.callPF [.k, .k, .p] gofn99 rfl Lent.nil (fun _ => (.cons (.tmp rfl) (.cons (.tmp rfl) .nil))) (mover_ok (f := f - 1) ih Xc.mk ho (hwl _ (by simp)) (hwl _ (by simp)) (hfl _ (by simp)) (hfl _ (by simp)) (hsz _ (by simp)) (hsz _ (by simp)) hs h1) (.inl rfl) (fun k124 x124 o124 h124 => ?_) (fun k124 => ?_)
      rotate_left
      · skip
        refine thenQ.p (blkQ.p (thenQ.p ?_))
        exact ⟨_, selP [.k, .k] _, _, rfl, rfl, sel_perm [.k, .k] _, EvR.er ((ev_over ho hlo).trans (er_of k124)) k124⟩
      obtain ⟨v124, f124, hv124, rfl, rfl⟩ := h124
      exact JL.store_boxF 0 ty26 (.tmp rfl) rfl (.tmp rfl) rfl vl rfl rfl (Zn (J.ret (blkQ.r (thenQ.r (Zr [.k, .k, .p] (RetEv.one rfl (REv.cell 0 ty26 rfl rfl (take_at vl rfl) vl lr)) rfl (EvR.ok ((ev_over ho hlo).trans hv124)))))))
    have n29 : ¬ o = 29 := by simpa using c14
    have hpl : o = 23 ∨ (8 ≤ o ∧ o ≠ 18 ∧ o ≠ 19 ∧ o ≠ 21 ∧ o ≠ 27 ∧ o ≠ 28 ∧ o ≠ 29) := by omega
    refine J.skip (blkQ.n (thenQ.n (Zs (Zq rfl (QW.assign .const) (Zn (J.seq (Zs (Zq rfl (QW.field_ptr fo79_3 (.tmp rfl) rfl) (Zq rfl (QW.load_box1 1 ty77 (.tmp rfl) rfl rfl) ?_)))))))))
    refine Zq rfl (QW.len_slE sl77 (.tmp rfl) (EX.css_length _ _)) (Zq rfl (QW.move .const) (Zn (J.block (J.reown (Reown.nilArrE eV _) (J.loopK (ι := Nat × Value × List V × Int) [0, 3, 4, 126, 127] (fun ⟨j, v, vs, g1⟩ => [(128, .c (.int .i64 (j : Int))), (5, .c v)]) (fun ⟨j, v, vs, g1⟩ oo => List.set (List.set oo 3 (.arr v eV (V.css false vs))) 2 (mb b s g1)) (fun ⟨j, v, vs, g1⟩ => j ≤ l.length ∧ vs.length = j ∧ (∀ x ∈ vs, x.good) ∧ okF g1 ∧ EX.evs l s (f - 1) = joinV vs (EX.evs (l.drop j) s g1)) (fun ⟨j, v, vs, g1⟩ => l.length - j) ⟨0, .slice none 0 0, [], f - 1⟩ (⟨Nat.zero_le _, rfl, (fun _ h => by cases h), h1, joinV_nil _⟩) (Wk.re (.cons rfl lr (.cons rfl lr (.cons rfl lr (.cons rfl lr (.cons rfl lr (.cons rfl lr (.cons rfl lr .nil))))))) (Reown.refl _) (fun _ h => by first | exact h | simp [h])) ?_)))))
    intro ⟨j, v, vs, g1⟩ ⟨hj, hvl, hvg, hg1, hevs⟩
    refine J.conv (by (try simp only [nl, stepsO, valO, nthO, curO, mrg, AV.cellsOf, splice_zero, splice_succ, Nat.reduceAdd]); rfl) ?_
    refine Zs (Zq rfl (QW.lss (.tmp rfl) (.tmp rfl)) (Zn (J.seq ?_)))
    refine J.cond (.tmp rfl) (fun c15 => ?_) (fun c15 => ?_)
    · skip
      have hlt : j < l.length := by simpa [EX.css_length] using c15
      refine Zk (J.seq (J.block (Zs (Zq rfl (QW.index_sl sl77 ty79 rfl (.tmp rfl) (.tmp rfl) rfl (by exact EX.css_getE _ hlt)) ?_))))
      refine Zq rfl (QW.load_ref ty79 (.tmp rfl) (take_at0 xl rfl) xl) (JL.alloc z79 rfl rfl fun b7 => JL.store_boxF 0 ty79 (.tmp rfl) rfl (.tmp rfl) rfl xl rfl rfl (Zn (J.region_lit (Zq rfl (QW.move (.tmp rfl)) (Zq rfl (QW.move (.tmp rfl)) (Zq rfl (QW.load_box 0 ty79 (.tmp rfl) rfl (take_at xl rfl) xl) ?_))))))
      refine JL.callPF [.k, .k, .k, .p] gofn87 rfl Lent.nil (fun _ => (.cons (.tmp rfl) (.cons (.tmp rfl) .nil))) (ih l[j] s g1 b fr (hwl _ (List.getElem_mem hlt)) (hfl _ (List.getElem_mem hlt)) hs hg1 (hsz _ (List.getElem_mem hlt))) (.inl rfl) (fun k135 x135 o135 h135 => ?_) (fun k135 => ?_)
      rotate_left
      · skip
        refine blkQ.p (thenQ.p (thenQ.p (blkQ.p (thenQ.p ?_))))
        exact ⟨_, selP [.k, .k, .k, .k] _, _, rfl, rfl, sel_perm [.k, .k, .k, .k] _, EvR.er ((ev_pl hlo hpl).trans (plE_no (hevs.trans (evs_bad hlt (er_of k135))))) k135⟩
      obtain ⟨v135, f135, hv135, rfl, rfl⟩ := h135
      refine Zq rfl (QW.buildSlice (idx := [0]) (xs := [v135.cs false]) sl24 el26 z26 rfl (.cons (.tmp rfl) .nil) rfl rfl rfl rfl rfl (by exact fillOne vl) rfl (allOne vl) rfl) ?_
      refine JL.append 4 sl24 el26 rfl (.tmp rfl) rfl (srcA_sl sl24 (.tmp rfl)) (by rw [V.css_length]; show (_ + 1) * 80 ≤ _; unfold reach; omega) rfl fun v137 => ?_
      refine Zq rfl (QW.assign (.tmp rfl)) (JL.nil (blkQ.n (thenQ.n ?_)))
      rw [css_snoc]
      refine J.region_lit (Zq rfl (QW.add (.tmp rfl) .const (w64 (by omega))) (Zq rfl (QW.move (.tmp rfl)) (Zn ?_)))
      rw [evs_step hlt hv135] at hevs
      obtain ⟨hgv, hfv⟩ := ev_okF (hwl _ (List.getElem_mem hlt)) (hfl _ (List.getElem_mem hlt)) hs hg1 hv135
      exact ⟨⟨j + 1, v137, vs ++ [v135], f135⟩, ⟨hlt, by simp [hvl], fun z hz => (List.mem_append.1 hz).elim (hvg z) (fun h => by rw [List.mem_singleton.1 h]; exact hgv), hfv, hevs⟩, by show l.length - (j + 1) < l.length - j; omega, Wk.re (.cons rfl lr (.cons rfl lr (.cons rfl lr (.cons rfl lr (.cons rfl lr (.cons rfl lr (.cons rfl lr .nil))))))) (Reown.dropN 1 _ rfl) (fun _ h => by first | exact h | simp [h])⟩
    have hge : l.length ≤ j := by simpa [EX.css_length] using c15
    refine J.exit (thenQ.x (thenQ.x (blkQ.hit (thenQ.n (J.seq ?_)))))
    have hlj : j = l.length := by omega
    rw [List.drop_of_length_le hge, evs_done] at hevs
    refine J.closeArr 3 rfl (by rw [V.css_length]; show _ * 80 ≤ _; unfold reach; omega) rfl (fun z hz => by simp only [mb, fps_cons, fps_nil, Own.fp, List.append_nil, List.mem_singleton] at hz; subst hz; simp [mb, fps_cons, Own.fp]) ?_
    refine J.region_lit (Zq rfl (QW.load_box 1 ty79 (.tmp rfl) rfl rfl rfl) (Zq rfl (QW.move (.tmp rfl)) ?_))
    refine JL.callPF [] gofn100 rfl Lent.nil (fun _ => (.cons (.tmp rfl) (.cons (Ev.le (.tmp rfl) (.fact (by simp) (.slL (fr := true) (clip := false) (fun h => by cases h) rfl (V.css_sz false _) (.refl _)))) .nil))) (plain_ok Xc.mk htr hvg ⟨by omega, by omega⟩) (.inl rfl) (fun k141 x141 o141 h141 => ?_) (fun k141 => ?_)
    rotate_left
    · skip
      refine thenQ.p ?_
      exact ⟨_, selP [.k, .k, .k] _, _, rfl, rfl, sel_perm [.k, .k, .k] _, EvR.er ((ev_pl hlo hpl).trans (plE_er hevs (er_of k141))) k141⟩
    obtain ⟨v141, hv141, rfl, rfl⟩ := h141
    exact JL.store_boxF 0 ty26 (.tmp rfl) rfl (.tmp rfl) rfl vl rfl rfl (Zn (J.ret (Zr [.k, .k, .p] (RetEv.one rfl (REv.cell 0 ty26 rfl rfl (take_at vl rfl) vl lr)) rfl (EvR.ok ((ev_pl hlo hpl).trans (plE_ok hevs hv141))))))
end Go.Proofs.YtmccnmahegbmpaaGreat.J

/- Walks: expressions, the small functions. -/
namespace Go.Proofs.YtmccnmahegbmpaaGreat.J
open Go Go.RowKit
set_option maxRecDepth 10000
set_option maxHeartbeats 4000000
theorem within_ok (n l h : Int) : Fn Tryz.prog 94 [.c (.int .i64 n), .c (.int .i64 l), .c (.int .i64 h)] (.c (.bool (decide (l ≤ n) && decide (n ≤ h)))) := by
  refine AC.of_J Tryz.func94 rfl Tryz.ntmps94 rfl fun w0 A0 => ?_
  refine Zs (Zq rfl (QW.assign .const) (Zn (Zs (Zq rfl (QW.move (.tmp rfl)) (Zq rfl (QW.move (.tmp rfl)) (Zq rfl (QW.geq (.tmp rfl) (.tmp rfl)) (Zq rfl (QW.move (.tmp rfl)) (Zg rfl (fun hg => (QW.move (.tmp rfl))) (Zg rfl (fun hg => (QW.move (.tmp rfl))) ?_)))))))))
  refine Zg rfl (fun hg => (QW.leq (.when rfl hg) (.when rfl hg))) (Zq rfl (QW.pick_and (.tmp rfl) (.tmp rfl)) (Zq rfl (QW.assign (.tmp rfl)) (Zn (J.ret ?_))))
  exact ⟨_, [], _, RetEv.one rfl (REv.tmp rfl lr), rfl, List.Perm.refl _, rfl, rfl⟩
theorem need_ok (ok : Bool) (e : Int) : AC Tryz.prog 84 [] [.c (.bool ok), .c (.int .i64 e)] (PanR (ok = true) (errV e) fun x o => x = .tup [] ∧ o = []) := by
  refine AC.of_J Tryz.func84 rfl Tryz.ntmps84 rfl fun w0 A0 => ?_
  refine Zs (Zq rfl (QW.move (.tmp rfl)) (Zq rfl (QW.not (.tmp rfl)) (Zn ?_)))
  refine J.cond (.tmp rfl) (fun c1 => ?_) (fun c1 => ?_)
  · skip
    have hok : ok = false := by simpa using c1
    refine J.region_lit (Zq rfl (QW.move (.tmp rfl)) (Zq rfl (QW.mkIface ⟨_, Tryz.underlying33, by intro ms h; cases h⟩ (.tmp rfl)) ?_))
    refine JL.panic (.tmp rfl) ?_
    exact ⟨_, selP [] _, _, rfl, rfl, sel_perm [] _, PanR.pan (by simp [hok])⟩
  have hok : ok = true := by simpa using c1
  exact J.skip (Zr [] (RetEv.none rfl ) rfl (PanR.ret hok ⟨rfl, rfl⟩))
def shLo (o : Int) : Int := if argsN o = -1 then 0 else if argsN o = -2 then 2 else argsN o
def shHi (o : Int) : Int := if argsN o = -1 then 8 else if argsN o = -2 then 2 else argsN o
theorem shape_eq {o : Int} {a b c d : Int} {k : Bool} (h : a = shLo o ∧ b = shHi o ∧ c = textLo o ∧ d = textHi o ∧ k = decide (argsN o ≠ -2)) :
    Res.ret (.tup [.agg [.c (.int .i64 a), .c (.int .i64 b), .c (.int .i64 c), .c (.int .i64 d)], .c (.bool k)]) = Res.ret (.tup [.agg [.c (.int .i64 (shLo o)), .c (.int .i64 (shHi o)), .c (.int .i64 (textLo o)), .c (.int .i64 (textHi o))], .c (.bool (decide (argsN o ≠ -2)))]) := by
  obtain ⟨rfl, rfl, rfl, rfl, rfl⟩ := h; rfl
theorem shapeOf_ok (o : Int) : Fn Tryz.prog 93 [.c (.int .i64 o)] (.tup [.agg [.c (.int .i64 (shLo o)), .c (.int .i64 (shHi o)), .c (.int .i64 (textLo o)), .c (.int .i64 (textHi o))], .c (.bool (decide (argsN o ≠ -2)))]) := by
  refine AC.of_J Tryz.func93 rfl Tryz.ntmps93 rfl fun w0 A0 => ?_
  refine Zs (JL.alloc z161 rfl rfl fun b2 => Zq rfl (QW.assign .const) (Zn (J.seq (Zs (Zq rfl (QW.move (.tmp rfl)) (Zn (J.block (J.seq ?_))))))))
  refine Zs (Zq rfl (QW.eql (.tmp rfl) .const) (Zq rfl (QW.assign (.tmp rfl)) (Zn ?_)))
  refine J.cond (.tmp rfl) (fun c1 => ?_) (fun c1 => ?_)
  · try (exfalso; simp at *; omega; done)
    all_goals
      refine Zk ?_
      refine J.cond (.tmp rfl) (fun c2 => ?_) (fun c2 => absurd c2 (by (rw [c1]; decide)))
      refine Zs (Zq rfl (QW.build (idx := []) pl161 z161 rfl .nil rfl rfl rfl rfl) (JL.store_boxF 0 ty161 (.tmp rfl) rfl (.tmp rfl) rfl rfl rfl rfl (Zq rfl (QW.assign .const) (Zn (J.ret (blkQ.r (thenQ.r ?_)))))))
      exact ⟨_, [], _, RetEv.two rfl (REv.cell 0 ty161 rfl rfl rfl rfl lr) (REv.tmp rfl lr), rfl, List.Perm.refl _, shape_eq (by simp at *; unfold shLo shHi textLo textHi argsN; (repeat' split) <;> (try simp) <;> omega), rfl⟩
  try (exfalso; simp at *; omega; done)
  all_goals
    refine Zs (Zq rfl (QW.eql (.tmp rfl) .const) (Zq rfl (QW.assign (.tmp rfl)) (Zn ?_)))
    refine J.cond (.tmp rfl) (fun c2 => ?_) (fun c2 => ?_)
    · try (exfalso; simp at *; omega; done)
      all_goals
        refine Zk ?_
        refine J.cond (.tmp rfl) (fun c3 => ?_) (fun c3 => absurd c3 (by (rw [c2]; decide)))
        refine Zs (Zq rfl (QW.build (idx := []) pl161 z161 rfl .nil rfl rfl rfl rfl) (JL.store_boxF 0 ty161 (.tmp rfl) rfl (.tmp rfl) rfl rfl rfl rfl (Zq rfl (QW.assign .const) (Zn (J.ret (blkQ.r (thenQ.r ?_)))))))
        exact ⟨_, [], _, RetEv.two rfl (REv.cell 0 ty161 rfl rfl rfl rfl lr) (REv.tmp rfl lr), rfl, List.Perm.refl _, shape_eq (by simp at *; unfold shLo shHi textLo textHi argsN; (repeat' split) <;> (try simp) <;> omega), rfl⟩
    try (exfalso; simp at *; omega; done)
    all_goals
      refine Zs (Zq rfl (QW.eql (.tmp rfl) .const) (Zq rfl (QW.assign (.tmp rfl)) (Zn ?_)))
      refine J.cond (.tmp rfl) (fun c3 => ?_) (fun c3 => ?_)
      · try (exfalso; simp at *; omega; done)
        all_goals
          refine Zk ?_
          refine J.cond (.tmp rfl) (fun c4 => ?_) (fun c4 => absurd c4 (by (rw [c3]; decide)))
          refine Zs (Zq rfl (QW.build (idx := []) pl161 z161 rfl .nil rfl rfl rfl rfl) (JL.store_boxF 0 ty161 (.tmp rfl) rfl (.tmp rfl) rfl rfl rfl rfl (Zq rfl (QW.assign .const) (Zn (J.ret (blkQ.r (thenQ.r ?_)))))))
          exact ⟨_, [], _, RetEv.two rfl (REv.cell 0 ty161 rfl rfl rfl rfl lr) (REv.tmp rfl lr), rfl, List.Perm.refl _, shape_eq (by simp at *; unfold shLo shHi textLo textHi argsN; (repeat' split) <;> (try simp) <;> omega), rfl⟩
      try (exfalso; simp at *; omega; done)
      all_goals
        refine Zs (Zq rfl (QW.eql (.tmp rfl) .const) (Zq rfl (QW.assign (.tmp rfl)) (Zn ?_)))
        refine J.cond (.tmp rfl) (fun c4 => ?_) (fun c4 => ?_)
        · try (exfalso; simp at *; omega; done)
          all_goals
            refine Zk ?_
            refine J.cond (.tmp rfl) (fun c5 => ?_) (fun c5 => absurd c5 (by (rw [c4]; decide)))
            refine Zs (Zq rfl (QW.build (idx := []) pl161 z161 rfl .nil rfl rfl rfl rfl) (JL.store_boxF 0 ty161 (.tmp rfl) rfl (.tmp rfl) rfl rfl rfl rfl (Zq rfl (QW.assign .const) (Zn (J.ret (blkQ.r (thenQ.r ?_)))))))
            exact ⟨_, [], _, RetEv.two rfl (REv.cell 0 ty161 rfl rfl rfl rfl lr) (REv.tmp rfl lr), rfl, List.Perm.refl _, shape_eq (by simp at *; unfold shLo shHi textLo textHi argsN; (repeat' split) <;> (try simp) <;> omega), rfl⟩
        try (exfalso; simp at *; omega; done)
        all_goals
          refine Zs (Zq rfl (QW.eql (.tmp rfl) .const) (Zq rfl (QW.assign (.tmp rfl)) (Zn ?_)))
          refine J.cond (.tmp rfl) (fun c5 => ?_) (fun c5 => ?_)
          · try (exfalso; simp at *; omega; done)
            all_goals
              refine Zk ?_
              refine J.cond (.tmp rfl) (fun c6 => ?_) (fun c6 => absurd c6 (by (rw [c5]; decide)))
              refine Zs (Zq rfl (QW.build (idx := []) pl161 z161 rfl .nil rfl rfl rfl rfl) (JL.store_boxF 0 ty161 (.tmp rfl) rfl (.tmp rfl) rfl rfl rfl rfl (Zq rfl (QW.assign .const) (Zn (J.ret (blkQ.r (thenQ.r ?_)))))))
              exact ⟨_, [], _, RetEv.two rfl (REv.cell 0 ty161 rfl rfl rfl rfl lr) (REv.tmp rfl lr), rfl, List.Perm.refl _, shape_eq (by simp at *; unfold shLo shHi textLo textHi argsN; (repeat' split) <;> (try simp) <;> omega), rfl⟩
          try (exfalso; simp at *; omega; done)
          all_goals
            refine Zs (Zq rfl (QW.eql (.tmp rfl) .const) (Zq rfl (QW.assign (.tmp rfl)) (Zn ?_)))
            refine J.cond (.tmp rfl) (fun c6 => ?_) (fun c6 => ?_)
            · try (exfalso; simp at *; omega; done)
              all_goals
                refine Zk ?_
                refine J.cond (.tmp rfl) (fun c7 => ?_) (fun c7 => absurd c7 (by (rw [c6]; decide)))
                refine Zs (Zq rfl (QW.build (idx := []) pl161 z161 rfl .nil rfl rfl rfl rfl) (JL.store_boxF 0 ty161 (.tmp rfl) rfl (.tmp rfl) rfl rfl rfl rfl (Zq rfl (QW.assign .const) (Zn (J.ret (blkQ.r (thenQ.r ?_)))))))
                exact ⟨_, [], _, RetEv.two rfl (REv.cell 0 ty161 rfl rfl rfl rfl lr) (REv.tmp rfl lr), rfl, List.Perm.refl _, shape_eq (by simp at *; unfold shLo shHi textLo textHi argsN; (repeat' split) <;> (try simp) <;> omega), rfl⟩
            try (exfalso; simp at *; omega; done)
            all_goals
              refine J.region_lit (Zq rfl (QW.eql (.tmp rfl) .const) (Zq rfl (QW.assign (.tmp rfl)) (Zn ?_)))
              refine J.cond (.tmp rfl) (fun c7 => ?_) (fun c7 => ?_)
              · try (exfalso; simp at *; omega; done)
                all_goals
                  refine Zs (Zq rfl (QW.build (idx := []) pl161 z161 rfl .nil rfl rfl rfl rfl) (JL.store_boxF 0 ty161 (.tmp rfl) rfl (.tmp rfl) rfl rfl rfl rfl (Zq rfl (QW.assign .const) (Zn (J.ret (blkQ.r (thenQ.r ?_)))))))
                  exact ⟨_, [], _, RetEv.two rfl (REv.cell 0 ty161 rfl rfl rfl rfl lr) (REv.tmp rfl lr), rfl, List.Perm.refl _, shape_eq (by simp at *; unfold shLo shHi textLo textHi argsN; (repeat' split) <;> (try simp) <;> omega), rfl⟩
              try (exfalso; simp at *; omega; done)
              all_goals
                refine Zs (Zq rfl (QW.eql (.tmp rfl) .const) (Zq rfl (QW.assign (.tmp rfl)) (Zn ?_)))
                refine J.cond (.tmp rfl) (fun c8 => ?_) (fun c8 => ?_)
                · try (exfalso; simp at *; omega; done)
                  all_goals
                    refine Zs (Zq rfl (QW.build (idx := [3]) pl161 z161 rfl (.cons .const .nil) rfl rfl rfl rfl) (JL.store_boxF 0 ty161 (.tmp rfl) rfl (.tmp rfl) rfl rfl rfl rfl (Zq rfl (QW.assign .const) (Zn (J.ret (blkQ.r (thenQ.r ?_)))))))
                    exact ⟨_, [], _, RetEv.two rfl (REv.cell 0 ty161 rfl rfl rfl rfl lr) (REv.tmp rfl lr), rfl, List.Perm.refl _, shape_eq (by simp at *; unfold shLo shHi textLo textHi argsN; (repeat' split) <;> (try simp) <;> omega), rfl⟩
                try (exfalso; simp at *; omega; done)
                all_goals
                  refine Zs (Zq rfl (QW.eql (.tmp rfl) .const) (Zq rfl (QW.assign (.tmp rfl)) (Zn ?_)))
                  refine J.cond (.tmp rfl) (fun c9 => ?_) (fun c9 => ?_)
                  · try (exfalso; simp at *; omega; done)
                    all_goals
                      refine Zs (Zq rfl (QW.build (idx := [0, 1, 2, 3]) pl161 z161 rfl (.cons .const (.cons .const (.cons .const (.cons .const .nil)))) rfl rfl rfl rfl) (JL.store_boxF 0 ty161 (.tmp rfl) rfl (.tmp rfl) rfl rfl rfl rfl (Zq rfl (QW.assign .const) (Zn (J.ret (blkQ.r (thenQ.r ?_)))))))
                      exact ⟨_, [], _, RetEv.two rfl (REv.cell 0 ty161 rfl rfl rfl rfl lr) (REv.tmp rfl lr), rfl, List.Perm.refl _, shape_eq (by simp at *; unfold shLo shHi textLo textHi argsN; (repeat' split) <;> (try simp) <;> omega), rfl⟩
                  try (exfalso; simp at *; omega; done)
                  all_goals
                    refine Zs (Zq rfl (QW.eql (.tmp rfl) .const) (Zq rfl (QW.assign (.tmp rfl)) (Zn ?_)))
                    refine J.cond (.tmp rfl) (fun c10 => ?_) (fun c10 => ?_)
                    · try (exfalso; simp at *; omega; done)
                      all_goals
                        refine Zs (Zq rfl (QW.build (idx := [0, 1, 2, 3]) pl161 z161 rfl (.cons .const (.cons .const (.cons .const (.cons .const .nil)))) rfl rfl rfl rfl) (JL.store_boxF 0 ty161 (.tmp rfl) rfl (.tmp rfl) rfl rfl rfl rfl (Zq rfl (QW.assign .const) (Zn (J.ret (blkQ.r (thenQ.r ?_)))))))
                        exact ⟨_, [], _, RetEv.two rfl (REv.cell 0 ty161 rfl rfl rfl rfl lr) (REv.tmp rfl lr), rfl, List.Perm.refl _, shape_eq (by simp at *; unfold shLo shHi textLo textHi argsN; (repeat' split) <;> (try simp) <;> omega), rfl⟩
                    try (exfalso; simp at *; omega; done)
                    all_goals
                      refine J.seq (Zs (Zq rfl (QW.eql (.tmp rfl) .const) (Zq rfl (QW.assign (.tmp rfl)) (Zn ?_))))
                      refine J.cond (.tmp rfl) (fun c11 => ?_) (fun c11 => ?_)
                      · try (exfalso; simp at *; omega; done)
                        all_goals
                          refine Zk ?_
                          refine J.cond (.tmp rfl) (fun c12 => ?_) (fun c12 => absurd c12 (by (rw [c11]; decide)))
                          refine Zs (Zq rfl (QW.build (idx := [0, 1]) pl161 z161 rfl (.cons .const (.cons .const .nil)) rfl rfl rfl rfl) (JL.store_boxF 0 ty161 (.tmp rfl) rfl (.tmp rfl) rfl rfl rfl rfl (Zq rfl (QW.assign .const) (Zn (J.ret (blkQ.r (thenQ.r ?_)))))))
                          exact ⟨_, [], _, RetEv.two rfl (REv.cell 0 ty161 rfl rfl rfl rfl lr) (REv.tmp rfl lr), rfl, List.Perm.refl _, shape_eq (by simp at *; unfold shLo shHi textLo textHi argsN; (repeat' split) <;> (try simp) <;> omega), rfl⟩
                      try (exfalso; simp at *; omega; done)
                      all_goals
                        refine Zs (Zq rfl (QW.eql (.tmp rfl) .const) (Zq rfl (QW.assign (.tmp rfl)) (Zn ?_)))
                        refine J.cond (.tmp rfl) (fun c12 => ?_) (fun c12 => ?_)
                        · try (exfalso; simp at *; omega; done)
                          all_goals
                            refine Zk ?_
                            refine J.cond (.tmp rfl) (fun c13 => ?_) (fun c13 => absurd c13 (by (rw [c12]; decide)))
                            refine Zs (Zq rfl (QW.build (idx := [0, 1]) pl161 z161 rfl (.cons .const (.cons .const .nil)) rfl rfl rfl rfl) (JL.store_boxF 0 ty161 (.tmp rfl) rfl (.tmp rfl) rfl rfl rfl rfl (Zq rfl (QW.assign .const) (Zn (J.ret (blkQ.r (thenQ.r ?_)))))))
                            exact ⟨_, [], _, RetEv.two rfl (REv.cell 0 ty161 rfl rfl rfl rfl lr) (REv.tmp rfl lr), rfl, List.Perm.refl _, shape_eq (by simp at *; unfold shLo shHi textLo textHi argsN; (repeat' split) <;> (try simp) <;> omega), rfl⟩
                        try (exfalso; simp at *; omega; done)
                        all_goals
                          refine Zs (Zq rfl (QW.eql (.tmp rfl) .const) (Zq rfl (QW.assign (.tmp rfl)) (Zn ?_)))
                          refine J.cond (.tmp rfl) (fun c13 => ?_) (fun c13 => ?_)
                          · try (exfalso; simp at *; omega; done)
                            all_goals
                              refine Zk ?_
                              refine J.cond (.tmp rfl) (fun c14 => ?_) (fun c14 => absurd c14 (by (rw [c13]; decide)))
                              refine Zs (Zq rfl (QW.build (idx := [0, 1]) pl161 z161 rfl (.cons .const (.cons .const .nil)) rfl rfl rfl rfl) (JL.store_boxF 0 ty161 (.tmp rfl) rfl (.tmp rfl) rfl rfl rfl rfl (Zq rfl (QW.assign .const) (Zn (J.ret (blkQ.r (thenQ.r ?_)))))))
                              exact ⟨_, [], _, RetEv.two rfl (REv.cell 0 ty161 rfl rfl rfl rfl lr) (REv.tmp rfl lr), rfl, List.Perm.refl _, shape_eq (by simp at *; unfold shLo shHi textLo textHi argsN; (repeat' split) <;> (try simp) <;> omega), rfl⟩
                          try (exfalso; simp at *; omega; done)
                          all_goals
                            refine J.region_lit (Zq rfl (QW.eql (.tmp rfl) .const) (Zq rfl (QW.assign (.tmp rfl)) (Zn ?_)))
                            refine J.cond (.tmp rfl) (fun c14 => ?_) (fun c14 => ?_)
                            · try (exfalso; simp at *; omega; done)
                              all_goals
                                refine Zs (Zq rfl (QW.build (idx := [0, 1]) pl161 z161 rfl (.cons .const (.cons .const .nil)) rfl rfl rfl rfl) (JL.store_boxF 0 ty161 (.tmp rfl) rfl (.tmp rfl) rfl rfl rfl rfl (Zq rfl (QW.assign .const) (Zn (J.ret (blkQ.r (thenQ.r ?_)))))))
                                exact ⟨_, [], _, RetEv.two rfl (REv.cell 0 ty161 rfl rfl rfl rfl lr) (REv.tmp rfl lr), rfl, List.Perm.refl _, shape_eq (by simp at *; unfold shLo shHi textLo textHi argsN; (repeat' split) <;> (try simp) <;> omega), rfl⟩
                            try (exfalso; simp at *; omega; done)
                            all_goals
                              refine Zs (Zq rfl (QW.eql (.tmp rfl) .const) (Zq rfl (QW.assign (.tmp rfl)) (Zn ?_)))
                              refine J.cond (.tmp rfl) (fun c15 => ?_) (fun c15 => ?_)
                              · try (exfalso; simp at *; omega; done)
                                all_goals
                                  refine Zs (Zq rfl (QW.build (idx := [0, 1]) pl161 z161 rfl (.cons .const (.cons .const .nil)) rfl rfl rfl rfl) (JL.store_boxF 0 ty161 (.tmp rfl) rfl (.tmp rfl) rfl rfl rfl rfl (Zq rfl (QW.assign .const) (Zn (J.ret (blkQ.r (thenQ.r ?_)))))))
                                  exact ⟨_, [], _, RetEv.two rfl (REv.cell 0 ty161 rfl rfl rfl rfl lr) (REv.tmp rfl lr), rfl, List.Perm.refl _, shape_eq (by simp at *; unfold shLo shHi textLo textHi argsN; (repeat' split) <;> (try simp) <;> omega), rfl⟩
                              try (exfalso; simp at *; omega; done)
                              all_goals
                                refine Zs (Zq rfl (QW.eql (.tmp rfl) .const) (Zq rfl (QW.assign (.tmp rfl)) (Zn ?_)))
                                refine J.cond (.tmp rfl) (fun c16 => ?_) (fun c16 => ?_)
                                · try (exfalso; simp at *; omega; done)
                                  all_goals
                                    refine Zs (Zq rfl (QW.build (idx := [1]) pl161 z161 rfl (.cons .const .nil) rfl rfl rfl rfl) (JL.store_boxF 0 ty161 (.tmp rfl) rfl (.tmp rfl) rfl rfl rfl rfl (Zq rfl (QW.assign .const) (Zn (J.ret (blkQ.r (thenQ.r ?_)))))))
                                    exact ⟨_, [], _, RetEv.two rfl (REv.cell 0 ty161 rfl rfl rfl rfl lr) (REv.tmp rfl lr), rfl, List.Perm.refl _, shape_eq (by simp at *; unfold shLo shHi textLo textHi argsN; (repeat' split) <;> (try simp) <;> omega), rfl⟩
                                try (exfalso; simp at *; omega; done)
                                all_goals
                                  refine J.skip (blkQ.n (thenQ.n (Zs (Zq rfl (QW.build (idx := [0, 1]) pl161 z161 rfl (.cons .const (.cons .const .nil)) rfl rfl rfl rfl) (Zq rfl (QW.move (.tmp rfl)) (Zq rfl (QW.gtr (.tmp rfl) .const) (Zq rfl (QW.move (.tmp rfl)) (Zg rfl (fun hg => (QW.move (.tmp rfl))) (Zg rfl (fun hg => (QW.leq (.when rfl hg) .const)) ?_)))))))))
                                  refine Zq rfl (QW.pick_and (.tmp rfl) (.tmp rfl)) (JL.store_boxF 0 ty161 (.tmp rfl) rfl (.tmp rfl) rfl rfl rfl rfl (Zq rfl (QW.assign (.tmp rfl)) (Zn (J.ret ?_))))
                                  exact ⟨_, [], _, RetEv.two rfl (REv.cell 0 ty161 rfl rfl rfl rfl lr) (REv.tmp rfl lr), rfl, List.Perm.refl _, shape_eq (by simp at *; unfold shLo shHi textLo textHi argsN; (repeat' split) <;> (try simp) <;> omega), rfl⟩
end Go.Proofs.YtmccnmahegbmpaaGreat.J

/- Walks: expressions, one part. -/
namespace Go.Proofs.YtmccnmahegbmpaaGreat.J
open Go Go.RowKit
set_option maxRecDepth 10000
set_option maxHeartbeats 4000000
theorem part_arith {q n lo hi tl : Int} {z : Bool} (hn : 0 ≤ n) (hq : q = -2 ∨ q = -1 ∨ (0 ≤ q ∧ q ≤ 3)) :
    ((decide (q ≠ -2) && z) && (decide ((if q = -1 then 0 else if q = -2 then 2 else q) ≤ n) && decide (n ≤ (if q = -1 then 8 else if q = -2 then 2 else q))) && (decide (lo ≤ tl) && decide (tl ≤ hi))) =
    (decide (q ≠ -2) && (q == -1 || (n == q)) && decide (n ≤ 8) && decide (lo ≤ tl) && decide (tl ≤ hi) && z) := by
  rw [Bool.eq_iff_iff]
  simp only [Bool.and_eq_true, Bool.or_eq_true, decide_eq_true_eq, beq_iff_eq]
  rcases hq with rfl | rfl | ⟨h4, h5⟩
  · simp
  · simp
    constructor
    · rintro ⟨⟨h6, h7, h7'⟩, h8, h9⟩; exact ⟨⟨⟨h7', h8⟩, h9⟩, h6⟩
    · rintro ⟨⟨⟨h6, h8⟩, h9⟩, h7⟩; exact ⟨⟨h7, by omega, h6⟩, h8, h9⟩
  · rw [if_neg (by omega), if_neg (by omega)]
    constructor
    · rintro ⟨⟨⟨h6, h7⟩, h8, h9⟩, h10, h11⟩; exact ⟨⟨⟨⟨⟨h6, .inr (by omega)⟩, by omega⟩, h10⟩, h11⟩, h7⟩
    · rintro ⟨⟨⟨⟨⟨h6, h12⟩, h13⟩, h10⟩, h11⟩, h7⟩
      have : n = q := h12.resolve_left (by omega)
      exact ⟨⟨⟨h6, h7⟩, by omega, by omega⟩, h10, h11⟩
theorem part_eq {o : Int} {b : Nat} {t : List UInt8} {l : List EX} {n : Int} (hn : n = (l.length : Int)) :
    ((decide (argsN o ≠ -2) && (((b : Int) == 0) || ((o == 3) && ((canonN b : Int) == (b : Int))))) && (decide (shLo o ≤ n) && decide (n ≤ shHi o)) && (decide (textLo o ≤ (t.length : Int)) && decide ((t.length : Int) ≤ textHi o))) = (EX.mk o b t l).ok := by
  subst hn
  have hz : canonN 0 = 0 := by decide
  have h1 : (((b : Int) == 0) || ((o == 3) && ((canonN b : Int) == (b : Int)))) = (if o = 3 then canonN b == b else b == 0) := by
    by_cases h3 : o = 3
    · subst h3
      rw [if_pos rfl, Bool.eq_iff_iff]
      simp
      constructor
      · rintro (h | h)
        · have : b = 0 := by omega
          rw [this, hz]
        · omega
      · intro h; right; rw [h]
    · rw [if_neg h3, Bool.eq_iff_iff]
      simp [h3]
  have ha : argsN o = -2 ∨ argsN o = -1 ∨ (0 ≤ argsN o ∧ argsN o ≤ 3) := by unfold argsN; (repeat' split) <;> omega
  rw [h1]
  exact part_arith (by omega) ha
theorem epart_ok {fr : Bool} {v : EX} {ys : List AV} (hv : Xc fr v ys) : Fn Tryz.prog 85 [.agg ys] (.c (.bool v.ok)) := by
  obtain ⟨o, b, t, l⟩ := v
  subst hv
  refine AC.of_J Tryz.func85 rfl Tryz.ntmps85 rfl fun w0 A0 => ?_
  refine Zs (JL.box_agg (.tmp rfl) rfl fun b1 => Zq rfl (QW.assign .const) (Zn (Zs (Zq rfl (QW.field_ptr fo79_0 (.tmp rfl) rfl) (Zq rfl (QW.load_box1 0 ty3 (.tmp rfl) rfl rfl) (Zq rfl (QW.call gofn93 (.cons (.tmp rfl) .nil) (shapeOf_ok _)) (Zq rfl (QW.move (.tmp rfl)) (Zq rfl (QW.extract (.tmp rfl) rfl) ?_))))))))
  refine Zq rfl (QW.extract (.tmp rfl) rfl) (JL.alloc z161 rfl rfl fun b3 => JL.store_boxF 0 ty161 (.tmp rfl) rfl (.tmp rfl) rfl rfl rfl rfl (Zq rfl (QW.assign (.tmp rfl)) (Zn (J.seq (J.region_tailK 13 mixed (by kernel_rfl) (by kernel_rfl) (by kernel_rfl) rfl ?_)))))
  refine .cons [] rfl rfl rfl (.q rfl (QW.field_ptr fo79_1 (.tmp rfl) rfl)) ?_
  refine .cons [12] rfl rfl rfl (.q rfl (QW.load_box1 1 ty22 (.tmp rfl) rfl rfl)) ?_
  refine .cons [13] rfl rfl rfl (.q rfl (QW.eql (.tmp rfl) .const)) ?_
  refine .cons [14] rfl rfl rfl (.q rfl (QW.move (.tmp rfl))) ?_
  refine .cons [15] rfl rfl rfl (.g rfl rfl rfl (fun hg => (QW.field_ptr fo79_0 (.tmp rfl) rfl))) ?_
  refine .cons [16, 15] rfl rfl rfl (.g rfl rfl rfl (fun hg => (QW.load_box1 1 ty3 (.when rfl hg) rfl rfl))) ?_
  refine .cons [17, 15] rfl rfl rfl (.g rfl rfl rfl (fun hg => (QW.eql (.when rfl hg) .const))) ?_
  refine .cons [18, 15] rfl rfl rfl (.g rfl rfl rfl (fun hg => (QW.move (.when rfl hg)))) ?_
  refine .cons [19] rfl rfl rfl (.gg rfl rfl rfl (fun hg => (QW.field_ptr fo79_1 (.tmp rfl) rfl))) ?_
  refine .cons [20, 19] rfl rfl rfl (.gg rfl rfl rfl (fun hg => (QW.load_box1 1 ty22 (.when rfl hg) rfl rfl))) ?_
  refine .cons [21, 19] rfl rfl rfl (.gg rfl rfl rfl (fun hg => (QW.call gofn70 (.cons (.when rfl hg) .nil) (canon_ok _)))) ?_
  refine .cons [19] rfl rfl rfl (.gg rfl rfl rfl (fun hg => (QW.field_ptr fo79_1 (.tmp rfl) rfl))) ?_
  refine .cons [23, 19] rfl rfl rfl (.gg rfl rfl rfl (fun hg => (QW.load_box1 1 ty22 (.when rfl hg) rfl rfl))) ?_
  refine .nil ?_
  refine JL.gg rfl rfl rfl rfl rfl (fun hg => (QW.eql (.when rfl hg) (.when rfl hg))) (Zg rfl (fun hg => (QW.pick_and2 hg (.when rfl hg) (.tmp rfl))) (Zq rfl (QW.pick_or (.tmp rfl) (.tmp rfl)) (Zq rfl (QW.assign (.tmp rfl)) (Zn (Zs (Zq rfl (QW.move (.tmp rfl)) (Zq rfl (QW.move (.tmp rfl)) (Zg rfl (fun hg => (QW.move (.tmp rfl))) (Zq rfl (QW.pick_and (.tmp rfl) (.tmp rfl)) ?_)))))))))
  refine Zq rfl (QW.move (.tmp rfl)) (Zg rfl (fun hg => (QW.field_ptr fo79_3 (.tmp rfl) rfl)) (Zg rfl (fun hg => (QW.load_box1 1 ty77 (.when rfl hg) rfl rfl)) (Zg rfl (fun hg => (QW.len_sl sl77 (.when rfl hg))) (Zg rfl (fun hg => (QW.field_ptr fo161_0 (.tmp rfl) rfl)) (Zg rfl (fun hg => (QW.load_box1 0 ty3 (.when rfl hg) rfl rfl)) (Zg rfl (fun hg => (QW.field_ptr fo161_1 (.tmp rfl) rfl)) (Zg rfl (fun hg => (QW.load_box1 0 ty3 (.when rfl hg) rfl rfl)) (Zg rfl (fun hg => (QW.call gofn94 (.cons (.when rfl hg) (.cons (.when rfl hg) (.cons (.when rfl hg) .nil))) (within_ok _ _ _))) (Zq rfl (QW.pick_and (.tmp rfl) (.tmp rfl)) ?_)))))))))
  refine Zq rfl (QW.move (.tmp rfl)) (Zg rfl (fun hg => (QW.field_ptr fo79_2 (.tmp rfl) rfl)) (Zg rfl (fun hg => (QW.load_box1 1 ty9 (.when rfl hg) rfl rfl)) (Zg rfl (fun hg => (QW.len_s st9 (.when rfl hg))) (Zg rfl (fun hg => (QW.field_ptr fo161_2 (.tmp rfl) rfl)) (Zg rfl (fun hg => (QW.load_box1 0 ty3 (.when rfl hg) rfl rfl)) (Zg rfl (fun hg => (QW.field_ptr fo161_3 (.tmp rfl) rfl)) (Zg rfl (fun hg => (QW.load_box1 0 ty3 (.when rfl hg) rfl rfl)) (Zg rfl (fun hg => (QW.call gofn94 (.cons (.when rfl hg) (.cons (.when rfl hg) (.cons (.when rfl hg) .nil))) (within_ok _ _ _))) (Zq rfl (QW.pick_and (.tmp rfl) (.tmp rfl)) ?_)))))))))
  exact Zq rfl (QW.assign (.tmp rfl)) (Zn (J.ret (Zr [.k, .k] (RetEv.one rfl (REv.tmp rfl lr)) rfl ⟨by rw [← part_eq (n := ((EX.css fr l).length : Int)) (by rw [EX.css_length])], rfl⟩)))
end Go.Proofs.YtmccnmahegbmpaaGreat.J

/- Walks: expressions, the page's own small functions. -/
namespace Go.Proofs.YtmccnmahegbmpaaGreat.J
open Go Go.RowKit
set_option maxRecDepth 10000
set_option maxHeartbeats 4000000
end Go.Proofs.YtmccnmahegbmpaaGreat.J

/- Walks: both walks over an expression. -/
namespace Go.Proofs.YtmccnmahegbmpaaGreat.J
open Go Go.RowKit
set_option maxRecDepth 10000
set_option maxHeartbeats 4000000
theorem EX.chks_cons {is : List EX} {j : Nat} (h : j < is.length) (lev n : Int) : EX.chks (is.drop j) lev n = if (EX.chk is[j] (lev + 1) n).1 ≠ 0 then EX.chk is[j] (lev + 1) n else EX.chks (is.drop (j + 1)) lev (EX.chk is[j] (lev + 1) n).2 := by
  rw [List.drop_eq_getElem_cons h, EX.chks]
theorem EX.depths_cons {is : List EX} {j : Nat} (h : j < is.length) : EX.depths (is.drop j) = max is[j].depth (EX.depths (is.drop (j + 1))) := by
  rw [List.drop_eq_getElem_cons h, EX.depths]
def EWR (v : EX) (lev p d : Int) (bw : Nat) : Res → List Own → Prop := PanR ((v.chk lev p).1 = 0) (errV (v.chk lev p).1) fun x o => x = .tup [] ∧ o = [wk bw (v.chk lev p).2 (max d (lev + v.depth - 1))]
theorem ewalk_n  : ∀ (n : Nat) {v : EX} {ys : List AV} {fr : Bool} {lev p d : Int} {bw : Nat}, Xc fr v ys → v.wf → 1 ≤ lev ∧ lev ≤ 9 → 0 ≤ p ∧ p ≤ 64 → v.sz ≤ n →
    AC Tryz.prog 75 [wk bw p d] [.c (.pointer (some ⟨bw, 0, none⟩)), .agg ys, .c (.int .i64 lev)] (EWR v lev p d bw) := by
  intro n
  induction n with
  | zero => intro v ys fr lev p d bw hv hw hl hp h; exact absurd h (by have := EX.sz_pos v; omega)
  | succ n ih =>
    intro v ys fr lev p d bw hv hw hl hp hn
    obtain ⟨o, b, t, is⟩ := v
    subst hv
    obtain ⟨-, -, -, hi80, hwi⟩ := hw.inv
    have hi64 : is.length ≤ 9223372036854775806 := by unfold reach at hi80; omega
    refine AC.of_J Tryz.func75 rfl Tryz.ntmps75 rfl fun w0 A0 => ?_
    refine Zs (JL.box_agg (.tmp rfl) rfl fun b4 => Zn (Zs (Zq rfl (QW.move (.tmp rfl)) (Zq rfl (QW.leq (.tmp rfl) .const) ?_))))
    refine JL.callPF [] gofn84 rfl Lent.nil (fun _ => (.cons (.tmp rfl) (.cons .const .nil))) (need_ok _ _) (.inl rfl) (fun k10 x10 o10 h10 => ?_) (fun k10 => ?_)
    rotate_left
    · skip
      refine thenQ.p ?_
      exact ⟨_, selP [.k, .k] _, _, rfl, rfl, sel_perm [.k, .k] _, PanR.of (by simp [EX.chk, show 8 < lev by simpa using k10]) (by decide)⟩
    obtain ⟨rfl, rfl⟩ := h10
    refine Zn (Zs ?_)
    have hk10 : lev ≤ 8 := by simpa using k10
    refine Zq rfl (QW.move (.tmp rfl)) (Zq rfl (QW.nil_ptr (.tmp rfl)) (Zq rfl (QW.field_ptr fo138_0 (.tmp rfl) rfl) (Zq rfl (QW.load_box1 1 ty3 (.tmp rfl) rfl rfl) (Zq rfl (QW.lss (.tmp rfl) .const) ?_))))
    refine JL.callPF [] gofn84 rfl Lent.nil (fun _ => (.cons (.tmp rfl) (.cons .const .nil))) (need_ok _ _) (.inl rfl) (fun k16 x16 o16 h16 => ?_) (fun k16 => ?_)
    rotate_left
    · skip
      refine thenQ.p ?_
      exact ⟨_, selP [.k, .k] _, _, rfl, rfl, sel_perm [.k, .k] _, PanR.of (by simp [EX.chk, show ¬ 8 < lev by omega, show 64 ≤ p by simpa using k16]) (by decide)⟩
    obtain ⟨rfl, rfl⟩ := h16
    refine Zn (Zs ?_)
    have hk16 : p < 64 := by simpa using k16
    refine Zq rfl (QW.load_box 0 ty79 (.tmp rfl) rfl rfl rfl) (Zq rfl (QW.call gofn85 (.cons (.tmp rfl) .nil) (epart_ok Xc.mk)) ?_)
    refine JL.callPF [] gofn84 rfl Lent.nil (fun _ => (.cons (.tmp rfl) (.cons .const .nil))) (need_ok _ _) (.inl rfl) (fun k19 x19 o19 h19 => ?_) (fun k19 => ?_)
    rotate_left
    · skip
      refine thenQ.p ?_
      exact ⟨_, selP [.k, .k] _, _, rfl, rfl, sel_perm [.k, .k] _, PanR.of (by simp [EX.chk, show ¬ 8 < lev by omega, show ¬ 64 ≤ p by omega, show (EX.mk o b t is).ok = false by simpa using k19]) (by decide)⟩
    obtain ⟨rfl, rfl⟩ := h19
    refine Zn (Zs ?_)
    have hk19 : (EX.mk o b t is).ok = true := k19
    refine Zq rfl (QW.move (.tmp rfl)) (Zq rfl (QW.nil_ptr (.tmp rfl)) (Zq rfl (QW.field_ptr fo138_0 (.tmp rfl) rfl) (Zq rfl (QW.load_box1 1 ty3 (.tmp rfl) rfl rfl) (Zq rfl (QW.add (.tmp rfl) .const (w64 (by omega))) (Zq rfl (QW.nil_ptr (.tmp rfl)) (Zq rfl (QW.field_ptr fo138_0 (.tmp rfl) rfl) (JL.store_box 1 ty3 (.tmp rfl) rfl (.tmp rfl) rfl rfl rfl rfl rfl (Zn (Zs ?_)))))))))
    refine Zq rfl (QW.move (.tmp rfl)) (Zq rfl (QW.move (.tmp rfl)) (Zq rfl (QW.nil_ptr (.tmp rfl)) (Zq rfl (QW.field_ptr fo138_1 (.tmp rfl) rfl) (Zq rfl (QW.load_box1 1 ty3 (.tmp rfl) rfl rfl) (Zq rfl (QW.move (.tmp rfl)) (Zq rfl (QW.max2 (.tmp rfl) (.tmp rfl)) (Zq rfl (QW.nil_ptr (.tmp rfl)) (Zq rfl (QW.field_ptr fo138_1 (.tmp rfl) rfl) (JL.store_box 1 ty3 (.tmp rfl) rfl (.tmp rfl) rfl rfl rfl rfl rfl ?_)))))))))
    refine Zn (Zs (Zq rfl (QW.field_ptr fo79_3 (.tmp rfl) rfl) (Zq rfl (QW.load_box1 0 ty77 (.tmp rfl) rfl rfl) (Zq rfl (QW.len_sl sl77 (.tmp rfl)) (Zq rfl (QW.move .const) (Zn (J.block ?_)))))))
    have hck : EX.chk (.mk o b t is) lev p = EX.chks is lev (p + 1) := by unfold EX.chk; rw [if_neg (by omega), if_neg (by omega), if_neg (by simp [hk19])]
    refine J.loopK (ι := Nat × Int × Int) [0, 2, 37, 38] (fun ⟨j, q, e⟩ => [(39, .c (.int .i64 (j : Int)))]) (fun ⟨j, q, e⟩ oo => List.set oo 1 (wk bw q e)) (fun ⟨j, q, e⟩ => j ≤ is.length ∧ EX.chks is lev (p + 1) = EX.chks (is.drop j) lev q ∧ max e (lev + EX.depths (is.drop j)) = max d (lev + EX.depths is) ∧ (0 ≤ q ∧ q ≤ 64 ∧ lev ≤ e)) (fun ⟨j, q, e⟩ => is.length - j) ⟨0, p + 1, if lev > d then lev else d⟩ (⟨Nat.zero_le _, rfl, by have := EX.depths_nonneg is; rw [List.drop_zero]; split <;> omega, by split <;> omega⟩) (Wk.re (.cons rfl lr (.cons rfl lr (.cons rfl lr (.cons rfl lr (.cons rfl lr .nil))))) (Reown.refl _) (fun _ h => by first | exact h | simp [h])) ?_
    intro ⟨j, q, e⟩ ⟨hj, hcs, hde, hq⟩
    refine J.conv (by (try simp only [nl, stepsO, valO, nthO, curO, mrg, AV.cellsOf, splice_zero, splice_succ, Nat.reduceAdd]); rfl) ?_
    refine Zs (Zq rfl (QW.lss (.tmp rfl) (.tmp rfl)) (Zn (J.seq ?_)))
    refine J.cond (.tmp rfl) (fun c1 => ?_) (fun c1 => ?_)
    · skip
      have hlt : j < is.length := by simpa [EX.css_length] using c1
      refine Zk (J.seq (J.block (Zs (Zq rfl (QW.index_sl sl77 ty79 rfl (.tmp rfl) (.tmp rfl) rfl (by exact EX.css_getE _ hlt)) ?_))))
      refine Zq rfl (QW.load_ref ty79 (.tmp rfl) (take_at0 xl rfl) xl) (JL.alloc z79 rfl rfl fun b7 => JL.store_boxF 0 ty79 (.tmp rfl) rfl (.tmp rfl) rfl xl rfl rfl (Zn (J.region_lit (Zq rfl (QW.move (.tmp rfl)) (Zq rfl (QW.load_box 0 ty79 (.tmp rfl) rfl (take_at xl rfl) xl) (Zq rfl (QW.move (.tmp rfl)) (Zq rfl (QW.add (.tmp rfl) .const (w64 (by omega))) ?_)))))))
      refine JL.callPF [.k, .k, .p] gofn75 rfl Lent.nil (fun _ => (.cons (.tmp rfl) (.cons (.tmp rfl) (.cons (.tmp rfl) .nil)))) (ih (Xc.self) (hwi _ (List.getElem_mem _)) (by omega) (by omega) (EX.sz_get hn hlt)) (.inl rfl) (fun k47 x47 o47 h47 => ?_) (fun k47 => ?_)
      rotate_left
      · skip
        refine blkQ.p (thenQ.p (thenQ.p (blkQ.p ?_)))
        rw [EX.chks_cons hlt, if_pos k47] at hcs
        have he := hck.trans hcs
        exact ⟨_, selP [.k, .k] _, _, rfl, rfl, sel_perm [.k, .k] _, PanR.of (by rw [he]) k47⟩
      obtain ⟨rfl, rfl⟩ := h47
      refine JL.nil (blkQ.n (thenQ.n (J.region_lit (Zq rfl (QW.add (.tmp rfl) .const (w64 (by omega))) (Zq rfl (QW.move (.tmp rfl)) (Zn ?_))))))
      have hb := EX.chk_bounds is[j] (lev + 1) q
      rw [EX.chks_cons hlt, if_neg (by simp [k47])] at hcs
      rw [EX.depths_cons hlt] at hde
      exact ⟨⟨j + 1, (EX.chk is[j] (lev + 1) q).2, max e (lev + 1 + is[j].depth - 1)⟩, ⟨hlt, hcs, by omega, by omega⟩, by show is.length - (j + 1) < is.length - j; omega, Wk.re (.cons rfl lr (.cons rfl lr (.cons rfl lr (.cons rfl lr (.cons rfl lr .nil))))) (Reown.dropN 1 _ rfl) (fun _ h => by first | exact h | simp [h])⟩
    have hge : is.length ≤ j := by simpa [EX.css_length] using c1
    refine J.exit (thenQ.x (thenQ.x (blkQ.hit ?_)))
    obtain rfl : j = is.length := by omega
    simp only [List.drop_length, EX.chks, EX.depths] at hcs hde
    have he := hck.trans hcs
    exact Zr [.k, .p] (RetEv.none rfl ) rfl (PanR.ret (by rw [he]) ⟨rfl, by rw [he]; unfold EX.depth; rw [show max d (lev + (1 + EX.depths is) - 1) = e by omega]; rfl⟩)
end Go.Proofs.YtmccnmahegbmpaaGreat.J

/- Walks: sizes, checks of expressions; are two one. -/
namespace Go.Proofs.YtmccnmahegbmpaaGreat.J
open Go Go.RowKit
set_option maxRecDepth 10000
set_option maxHeartbeats 4000000
theorem told_nil (c : Nat) (z : Int) : AC Tryz.prog 74 [ibox c z] [.c .nilIface, .c (.pointer (some ⟨c, 0, none⟩))] (RetR fun x o => x = .c (.bool false) ∧ o = [ibox c z]) := by
  refine AC.of_J Tryz.func74 rfl Tryz.ntmps74 rfl fun w0 A0 => ?_
  refine Zs (Zq rfl (QW.assign .const) (Zn (Zs (Zq rfl (QW.move (.tmp rfl)) (Zq rfl (QW.assert_nil ⟨_, Tryz.underlying33, by intro ms h; cases h⟩ zeroErrno (.tmp rfl)) ?_)))))
  refine Zq rfl (QW.move (.tmp rfl)) (Zq rfl (QW.extract (.tmp rfl) rfl) (Zq rfl (QW.extract (.tmp rfl) rfl) (Zq rfl (QW.assign (.tmp rfl)) (Zq rfl (QW.assign (.tmp rfl)) (Zn (J.seq (Zs (Zq rfl (QW.move (.tmp rfl)) (Zn ?_)))))))))
  refine J.cond (.tmp rfl) (fun c1 => absurd c1 (by simp)) (fun c1 => ?_)
  exact Zk (Zs (Zq rfl (QW.move (.tmp rfl)) (Zq rfl (QW.assign (.tmp rfl)) (Zn (J.ret (Zr [.p] (RetEv.one rfl (REv.tmp rfl lr)) rfl ⟨_, rfl, rfl, rfl⟩))))))
theorem told_hit (c : Nat) (z e : Int) : AC Tryz.prog 74 [ibox c z] [.c (errV e), .c (.pointer (some ⟨c, 0, none⟩))] (RetR fun x o => x = .c (.bool true) ∧ o = [ibox c e]) := by
  refine AC.of_J Tryz.func74 rfl Tryz.ntmps74 rfl fun w0 A0 => ?_
  refine Zs (Zq rfl (QW.assign .const) (Zn (Zs (Zq rfl (QW.move (.tmp rfl)) (Zq rfl (QW.assert_hit ⟨_, Tryz.underlying33, by intro ms h; cases h⟩ (.tmp rfl)) ?_)))))
  refine Zq rfl (QW.move (.tmp rfl)) (Zq rfl (QW.extract (.tmp rfl) rfl) (Zq rfl (QW.extract (.tmp rfl) rfl) (Zq rfl (QW.assign (.tmp rfl)) (Zq rfl (QW.assign (.tmp rfl)) (Zn (J.seq (Zs (Zq rfl (QW.move (.tmp rfl)) (Zn ?_)))))))))
  refine J.cond (.tmp rfl) (fun c1 => ?_) (fun c1 => absurd c1 (by simp))
  refine J.region_lit (Zq rfl (QW.move (.tmp rfl)) (Zq rfl (QW.move (.tmp rfl)) (Zq rfl (QW.nil_ptr (.tmp rfl)) (JL.store_box 0 ty33 (.tmp rfl) rfl (.tmp rfl) rfl rfl rfl rfl rfl (Zn (Zs (Zq rfl (QW.move (.tmp rfl)) (Zq rfl (QW.assign (.tmp rfl)) (Zn ?_)))))))))
  exact J.ret (Zr [.p] (RetEv.one rfl (REv.tmp rfl lr)) rfl ⟨_, rfl, rfl, rfl⟩)
theorem esize1_ret (a b c : Nat) (x y z : Int) : DC Tryz.prog 73 [ibox a x, ibox c z, ibox b y] [.c (.pointer (some ⟨a, 0, none⟩)), .c (.pointer (some ⟨b, 0, none⟩)), .c (.pointer (some ⟨c, 0, none⟩))] .returning fun r u' o => r = .ret (.tup []) ∧ u' = .returning ∧ o = [ibox a x, ibox c z, ibox b y] := by
  refine DC.of_JD Tryz.func73 rfl Tryz.ntmps73 rfl fun w0 A0 => ?_
  refine JD.seq (JD.region_recover rfl rfl (.inl ⟨rfl, rfl, rfl⟩) rfl (JL.callRF [.p] gofn74 rfl Lent.nil (fun _ => (.cons (.tmp rfl) (.cons (.tmp rfl) .nil))) (told_nil _ _) (.inl rfl) fun x4 o4 h4 => ?_))
  obtain ⟨rfl, rfl⟩ := h4
  refine JL.nil ?_
  refine thenD.nn ?_
  refine JD.of_J rfl ?_
  refine J.cond (.tmp rfl) (fun c1 => absurd c1 (by simp)) (fun c1 => ?_)
  refine J.skip ?_
  exact ⟨_, selP [.p, .p, .p] _, _, RetEv.none rfl , rfl, sel_perm [.p, .p, .p] _, ⟨rfl, rfl, rfl⟩⟩
theorem esize1_pan (a b c : Nat) (x y z e : Int) : DC Tryz.prog 73 [ibox a x, ibox c z, ibox b y] [.c (.pointer (some ⟨a, 0, none⟩)), .c (.pointer (some ⟨b, 0, none⟩)), .c (.pointer (some ⟨c, 0, none⟩))] (.panicking [{ v := errV e, recovered := false }]) fun r u' o => r = .ret (.tup []) ∧ u' = .panicking [{ v := errV e, recovered := true }] ∧ o = [ibox a e, ibox c 0, ibox b 0] := by
  refine DC.of_JD Tryz.func73 rfl Tryz.ntmps73 rfl fun w0 A0 => ?_
  refine JD.seq (JD.region_recover rfl rfl (.inr ⟨[], rfl, rfl⟩) rfl (JL.callRF [.p] gofn74 rfl Lent.nil (fun _ => (.cons (.tmp rfl) (.cons (.tmp rfl) .nil))) (told_hit _ _ _) (.inl rfl) fun x4 o4 h4 => ?_))
  obtain ⟨rfl, rfl⟩ := h4
  refine JL.nil ?_
  refine thenD.nn ?_
  refine JD.of_J rfl ?_
  refine J.cond (.tmp rfl) (fun c1 => ?_) (fun c1 => absurd c1 (by simp))
  refine J.region_lit (JL.store_box 2 ty3 (.tmp rfl) rfl .const rfl rfl rfl rfl rfl (JL.store_box 1 ty3 (.tmp rfl) rfl .const rfl rfl rfl rfl rfl (JL.nil ?_)))
  exact ⟨_, selP [.p, .p, .p] _, _, RetEv.none rfl , rfl, sel_perm [.p, .p, .p] _, ⟨rfl, rfl, rfl⟩⟩
def esizeAV (v : EX) : AV := .tup [.c (.int .i64 (if v.err = 0 then v.cnt else 0)), .c (.int .i64 (if v.err = 0 then v.depth else 0)), .c (.int .i64 v.err)]
theorem esizeAV_ok {v : EX} {n d : Int} (h : v.err = 0) (hn : n = v.cnt) (hd : d = v.depth) : esizeAV v = .tup [.c (.int .i64 n), .c (.int .i64 d), .c (.int .i64 0)] := by
  subst hn hd; simp [esizeAV, h]
theorem esizeAV_no {v : EX} {e : Int} (h : ¬ v.err = 0) (he : e = v.err) : esizeAV v = .tup [.c (.int .i64 0), .c (.int .i64 0), .c (.int .i64 e)] := by
  subst he; simp [esizeAV, h]
theorem esize_ok {fr : Bool} {v : EX} {ys : List AV} (hv : Xc fr v ys) (hw : v.wf) : Fn Tryz.prog 62 [.agg ys] (esizeAV v) := by
  subst hv
  refine AC.of_JD Tryz.func62 rfl Tryz.ntmps62 rfl fun w0 A0 => ?_
  refine Zs (JL.box_agg (.tmp rfl) rfl fun b1 => JL.alloc z3 rfl rfl fun b2 => JL.alloc z3 rfl rfl fun b3 => JL.alloc z33 rfl rfl fun b4 => Zn (Zs (Zq rfl (QW.mkFunc .nil (.cons (.tmp rfl) (.cons (.tmp rfl) (.cons (.tmp rfl) .nil)))) (JL.defer rfl (.tmp rfl) (Zn ?_)))))
  refine Zs (JL.alloc z138 rfl rfl fun b5 => Zn (Zs (Zq rfl (QW.load_box 4 ty79 (.tmp rfl) rfl (take_at xl rfl) xl) ?_)))
  refine JL.callPF [.p] gofn75 rfl Lent.nil (fun _ => (.cons (.tmp rfl) (.cons (.tmp rfl) (.cons .const .nil)))) (ewalk_n _ Xc.self hw (by omega) (by omega) (Nat.le_refl _)) (.inl rfl) (fun k8 x8 o8 h8 => ?_) (fun k8 => ?_)
  rotate_left
  · skip
    refine thenQ.p ?_
    exact ⟨_, _, [], [_, _, _], selP [.p, .p, .p] _, _, rfl, rfl, gofn73, sel_perm [.p, .p, .p] _, DC.mono (esize1_pan _ _ _ _ _ _ _) fun r u' o ⟨h1, h2, h3⟩ => by subst h1 h2 h3; exact ⟨⟨_, rfl⟩, rfl, _, [], _, RetEv.three rfl (REv.cell1 2 ty3 rfl rfl rfl lr) (REv.cell1 1 ty3 rfl rfl rfl lr) (REv.cell1 0 ty33 rfl rfl rfl lr), List.Perm.refl _, (congrArg Res.ret (esizeAV_no k8 rfl)).symm, rfl⟩⟩
  obtain ⟨rfl, rfl⟩ := h8
  refine Zn (J.seq (J.region_outK 5 1 (fun os_ ow_ x_ o_ => match os_ with | [] => (x_ = .c undef ∧ o_ = ow_.set 3 (ibox b2 (v.chk 1 0).2)) | _ => False) mixed (by kernel_rfl) (by kernel_rfl) (by kernel_rfl) rfl ?_))
  refine OutK.quiet [] rfl rfl rfl (fun qs_ qv_ ql_ => (.q rfl (QW.field_ptr fo138_0 (.tmp rfl) rfl))) ?_
  refine OutK.quiet [9] rfl rfl rfl (fun qs_ qv_ ql_ => by
      rcases qs_ with _ | ⟨⟨y0, p0⟩, qs_⟩
      · skip
        exact (.q rfl (QW.load_box1 0 ty3 (.tmp rfl) rfl rfl))
      rcases qs_ with _ | ⟨⟨y1, p1⟩, qs_⟩
      · skip
        obtain ⟨hr0, _⟩ := qv_
        obtain ⟨rfl, rfl⟩ := hr0
        exact (.q rfl (QW.load_box1 0 ty3 (.tmp rfl) rfl rfl))
      exact absurd ql_ (by simp)) ?_
  refine OutK.quiet [] rfl rfl rfl (fun qs_ qv_ ql_ => (.q rfl (QW.field_ptr fo138_1 (.tmp rfl) rfl))) ?_
  refine OutK.quiet [11] rfl rfl rfl (fun qs_ qv_ ql_ => by
      rcases qs_ with _ | ⟨⟨y0, p0⟩, qs_⟩
      · skip
        exact (.q rfl (QW.load_box1 0 ty3 (.tmp rfl) rfl rfl))
      rcases qs_ with _ | ⟨⟨y1, p1⟩, qs_⟩
      · skip
        obtain ⟨hr0, _⟩ := qv_
        obtain ⟨rfl, rfl⟩ := hr0
        exact (.q rfl (QW.load_box1 0 ty3 (.tmp rfl) rfl rfl))
      exact absurd ql_ (by simp)) ?_
  refine OutK.store [10] rfl (fun qs_ ow x o h ql_ => by
      obtain rfl : qs_ = [] := List.length_eq_zero_iff.1 (by simpa using ql_)
      exact h.1) rfl rfl rfl (fun qs_ qv_ ql_ => by
      obtain rfl : qs_ = [] := List.length_eq_zero_iff.1 ql_
      exact LStep.toR rfl (LStep.store_box 3 ty3 (.tmp rfl) rfl (.tmp rfl) rfl rfl rfl rfl rfl) ⟨rfl, rfl⟩) ?_
  refine .nil fun qs_ qv_ ql_ => ?_
  obtain ⟨⟨y0, p0⟩, qs_, rfl⟩ : ∃ p t, qs_ = p :: t := by (cases qs_ with | nil => simp at ql_ | cons p t => exact ⟨p, t, rfl⟩)
  obtain rfl : qs_ = [] := List.length_eq_zero_iff.1 (by simpa using ql_)
  obtain ⟨hr0, _⟩ := qv_
  obtain ⟨rfl, rfl⟩ := hr0
  refine JL.conv (by (try simp only [nl, stepsO, valO, nthO, curO, mrg, AV.cellsOf, splice_zero, splice_succ, Nat.reduceAdd]); rfl) ?_
  refine JL.store_box 2 ty3 (.tmp rfl) rfl (.tmp rfl) rfl rfl rfl rfl rfl (JL.store_box 1 ty33 (.tmp rfl) rfl .const rfl rfl rfl rfl rfl (Zn (J.ret ?_)))
  exact ⟨_, _, [], [_, _, _], selP [.k, .p, .p, .p] _, _, rfl, rfl, gofn73, sel_perm [.k, .p, .p, .p] _, DC.mono (esize1_ret _ _ _ _ _ _) fun r u' o ⟨h1, h2, h3⟩ => by subst h1 h2 h3; exact ⟨⟨_, rfl⟩, rfl, _, [], _, RetEv.three rfl (REv.cell1 2 ty3 rfl rfl rfl lr) (REv.cell1 1 ty3 rfl rfl rfl lr) (REv.cell1 0 ty33 rfl rfl rfl lr), List.Perm.refl _, (congrArg Res.ret (esizeAV_ok k8 rfl (by have := EX.chk_depth v 1 0 k8; omega))).symm, rfl⟩⟩
theorem echeck_ok {fr : Bool} {v : EX} {ys : List AV} (hv : Xc fr v ys) (hw : v.wf) : Fn Tryz.prog 47 [.agg ys] (.c (.int .i64 v.err)) := by
  subst hv
  refine AC.of_J Tryz.func47 rfl Tryz.ntmps47 rfl fun w0 A0 => ?_
  refine Zs (JL.box_agg (.tmp rfl) rfl fun b1 => Zq rfl (QW.assign .const) (Zn (Zs (Zq rfl (QW.load_box 0 ty79 (.tmp rfl) rfl (take_at xl rfl) xl) (Zq rfl (QW.call gofn62 (.cons (.tmp rfl) .nil) (esize_ok (Xc.self) (by assumption))) ?_)))))
  refine Zq rfl (QW.move (.tmp rfl)) (Zq rfl (QW.extract (.tmp rfl) rfl) (Zq rfl (QW.extract (.tmp rfl) rfl) (Zq rfl (QW.extract (.tmp rfl) rfl) (Zq rfl (QW.assign (.tmp rfl)) (Zq rfl (QW.assign (.tmp rfl)) (Zq rfl (QW.assign (.tmp rfl)) (Zn (Zs (Zq rfl (QW.move (.tmp rfl)) ?_)))))))))
  exact Zq rfl (QW.assign (.tmp rfl)) (Zn (J.ret (Zr [.k] (RetEv.one rfl (REv.tmp rfl lr)) rfl ⟨rfl, rfl⟩)))
end Go.Proofs.YtmccnmahegbmpaaGreat.J

/- Walks: are two expressions one; copies; octets that are copied, spoilt, compared. -/
namespace Go.Proofs.YtmccnmahegbmpaaGreat.J
open Go Go.RowKit
set_option maxRecDepth 10000
set_option maxHeartbeats 4000000
theorem of14_n  : ∀ (n : Nat) {v : EX} {ys : List AV} {fr : Bool}, Xc fr v ys → v.wf → v.sz ≤ n → AC Tryz.prog 24 [] [.agg ys] (RetR (CopyE v)) := by
  intro n
  induction n with
  | zero => intro v ys fr hv hw h; exact absurd h (by have := EX.sz_pos v; omega)
  | succ n ih =>
    intro v ys fr hv hw hn
    obtain ⟨o, b, t, is⟩ := v
    subst hv
    obtain ⟨-, -, -, hi80, hwi⟩ := hw.inv
    have h1 : is.length ≤ 9223372036854775806 := by unfold reach at hi80; omega
    refine AC.of_J Tryz.func24 rfl Tryz.ntmps24 rfl fun w0 A0 => ?_
    refine Zs (JL.box_agg (.tmp rfl) rfl fun b1 => JL.alloc z79 rfl rfl fun b2 => Zn (Zs (Zq rfl (QW.field_ptr fo60_0 (.tmp rfl) rfl) (Zq rfl (QW.load_box1 1 ty3 (.tmp rfl) rfl rfl) (Zq rfl (QW.field_ptr fo60_1 (.tmp rfl) rfl) (Zq rfl (QW.load_box1 1 ty22 (.tmp rfl) rfl rfl) (Zq rfl (QW.field_ptr fo60_2 (.tmp rfl) rfl) ?_)))))))
    refine Zq rfl (QW.load_box1 1 ty9 (.tmp rfl) rfl rfl) (Zq rfl (QW.build (idx := [0, 1, 2]) pl79 z79 rfl (.cons (.tmp rfl) (.cons (.tmp rfl) (.cons (.tmp rfl) .nil))) rfl rfl rfl rfl) (JL.alloc z79 rfl rfl fun b3 => JL.store_boxF 0 ty79 (.tmp rfl) rfl (.tmp rfl) rfl rfl rfl rfl (Zn (J.seq (Zs (Zq rfl (QW.assign .const) (Zn (J.block ?_))))))))
    refine J.reown (Reown.nilArrE eEX _) (J.reown (Reown.nilGrpE _) (J.loopK (ι := Nat × Value × List (List AV) × List Value × Own) [1, 2, 3] (fun ⟨j, v, cs, us, g⟩ => [(4, .c (.int .i64 (j : Int)))]) (fun ⟨j, v, cs, us, g⟩ oo => List.set (List.set (List.set oo 0 (.box b3 ((EX.mk o b t is).raw v))) 3 (.arr v eEX cs)) 4 (g)) (fun ⟨j, v, cs, us, g⟩ => j ≤ is.length ∧ EKids (is.take j) cs us g) (fun ⟨j, v, cs, us, g⟩ => is.length - j) ⟨0, .slice none 0 0, [], [], .grp []⟩ (⟨Nat.zero_le _, .nil⟩) (Wk.re (.cons rfl lr (.cons rfl lr (.cons rfl lr (.cons rfl lr .nil)))) (Reown.refl _) (fun _ h => by first | exact h | simp [h])) ?_))
    intro ⟨j, v, cs, us, g⟩ ⟨hj, hK⟩
    refine J.conv (by (try simp only [nl, stepsO, valO, nthO, curO, mrg, AV.cellsOf, splice_zero, splice_succ, Nat.reduceAdd]); rfl) ?_
    refine J.seq (Zs (Zq rfl (QW.move (.tmp rfl)) (Zq rfl (QW.field_ptr fo60_3 (.tmp rfl) rfl) (Zq rfl (QW.load_box1 2 ty58 (.tmp rfl) rfl rfl) (Zq rfl (QW.len_slE sl58 (.tmp rfl) (EX.css_length _ _)) (Zq rfl (QW.lss (.tmp rfl) (.tmp rfl)) (Zn ?_)))))))
    refine J.cond (.tmp rfl) (fun c1 => ?_) (fun c1 => ?_)
    · skip
      have hlt : j < is.length := by simpa [EX.css_length] using c1
      refine Zk (J.seq (J.block (J.regionX mixed (Zf 0 [] rfl (fun _ => QW.field_ptr fo79_3 (.tmp rfl) rfl) (Zo 1 0 [19] rfl (fun _ ho_ => QW.load_box1 0 ty77 (.tmp rfl) ho_ rfl) (Zf 2 [] rfl (fun _ => QW.field_ptr fo60_3 (.tmp rfl) rfl) (Zo 3 2 [21] rfl (fun _ ho_ => QW.load_box1 2 ty58 (.tmp rfl) ho_ rfl) (Zf 4 [] rfl (fun _ => QW.move (.tmp rfl)) (Zf 5 [22, 23] rfl (fun _ => QW.index_sl sl58 ty60 rfl (.tmp rfl) (.tmp rfl) rfl (by exact EX.css_getE _ hlt)) ?_)))))))))
      refine Zf 6 [24] rfl (fun _ => QW.load_ref ty60 (.tmp rfl) (take_at0 xl rfl) xl) (JX.one 7 [true, true, true, true, true, false, false] rfl (by kernel_rfl) (by kernel_rfl) rfl rfl (by kernel_rfl) rfl fun bs7_ pe_ ex_ => ?_)
      refine JL.conv (by (try simp only [vlF, bxF, tkM, lvM, Flt.val, Flt.bx, nx, nl, stepsO, valO, nthO, curO, mrg, AV.cellsOf, splice_zero, splice_succ, Nat.reduceAdd]); rfl) ?_
      refine JL.callRF [] gofn24 rfl Lent.nil (fun _ => (.cons (.tmp rfl) .nil)) (ih Xc.self (hwi _ (List.getElem_mem _)) (EX.sz_get hn hlt)) (.inl rfl) fun x26 o26 h26 => ?_
      obtain ⟨iv26, oi26, rfl, rfl, hV26⟩ := h26
      refine JL.nil ?_
      refine thenQ.n ⟨[_], _, rfl, rfl, rfl, rfl, rfl, Reown.mrgN 5 rfl rfl, ⟨rfl, rfl⟩, ⟨rfl, ⟨trivial, trivial⟩⟩, ?_⟩
      refine JX.conv (S' := [7, 6, 5, 4, 3, 2]) rfl (by (try simp only [lvM]); rfl) (by (try simp only [vlF, bxF, tkM, lvM, Flt.val, Flt.bx, nx, nl, stepsO, valO, nthO, curO, mrg, AV.cellsOf, splice_zero, splice_succ, Nat.reduceAdd]); rfl) ?_
      refine Zf 8 [26] rfl (fun _ => QW.buildSlice (idx := [0]) (xs := [is[j].raw iv26]) sl77 el79 z79 rfl (.cons (.tmp rfl) .nil) rfl rfl rfl rfl rfl rfl rfl rfl rfl) (JX.one 9 [true, true, true] rfl (by kernel_rfl) (by kernel_rfl) rfl rfl (by kernel_rfl) rfl fun bs9_ pe_ ex_ => ?_)
      refine JL.conv (by (try simp only [vlF, bxF, tkM, lvM, Flt.val, Flt.bx, nx, nl, stepsO, valO, nthO, curO, mrg, AV.cellsOf, splice_zero, splice_succ, Nat.reduceAdd]); rfl) ?_
      refine JL.append 3 sl77 el79 rfl (.tmp rfl) rfl (srcA_sl sl77 (.tmp rfl)) (by have := hK.h2; rw [List.length_take] at this; simp; unfold reach at *; omega) rfl fun v28 => ?_
      refine JL.nil ?_
      refine thenQ.n ⟨[_], _, rfl, rfl, rfl, rfl, rfl, Reown.tkN 6 rfl, ⟨rfl, rfl⟩, trivial, ?_⟩
      refine JX.conv (S' := [9, 8, 1, 0, 7, 6, 5, 4, 3, 2]) rfl (by (try simp only [lvM]); rfl) (by (try simp only [vlF, bxF, tkM, lvM, Flt.val, Flt.bx, nx, nl, stepsO, valO, nthO, curO, mrg, AV.cellsOf, splice_zero, splice_succ, Nat.reduceAdd]); rfl) ?_
      refine Zf 10 [] rfl (fun _ => QW.field_ptr fo79_3 (.tmp rfl) rfl) (JX.one 11 [true] rfl (by kernel_rfl) (by kernel_rfl) rfl rfl (by kernel_rfl) rfl fun bs11_ pe_ ex_ => ?_)
      refine JL.conv (by (try simp only [vlF, bxF, tkM, lvM, Flt.val, Flt.bx, nx, nl, stepsO, valO, nthO, curO, mrg, AV.cellsOf, splice_zero, splice_succ, Nat.reduceAdd]); rfl) ?_
      refine JL.isSlice 3 rfl fun hs2 => JL.store_box 0 ty77 (.tmp rfl) rfl (.tmp rfl) (by assumption) rfl rfl rfl rfl ?_
      refine JL.nil ?_
      refine thenQ.n ⟨[], _, rfl, rfl, rfl, rfl, rfl, Reown.tkN 6 rfl, trivial, trivial, ?_⟩
      refine JX.conv (S' := [11, 10, 9, 8, 1, 0, 7, 6, 5, 4, 3, 2]) rfl (by (try simp only [lvM]); rfl) (by (try simp only [vlF, bxF, tkM, lvM, Flt.val, Flt.bx, nx, nl, stepsO, valO, nthO, curO, mrg, AV.cellsOf, splice_zero, splice_succ, Nat.reduceAdd]); rfl) ?_
      refine JX.fin (by kernel_rfl) (by kernel_rfl) fun bs_ => ?_
      refine QX.conv (by (try simp only [vlF, bxF, tkM, lvM, Flt.val, Flt.bx, nx, nl, stepsO, valO, nthO, curO, mrg, AV.cellsOf, splice_zero, splice_succ, Nat.reduceAdd]); rfl) ?_
      refine blkQ.n (thenQ.n (J.region_lit (Zq rfl (QW.move (.tmp rfl)) (Zq rfl (QW.add (.tmp rfl) .const (w64 (by omega))) (Zq rfl (QW.assign (.tmp rfl)) (Zn ?_))))))
      exact ⟨⟨j + 1, _, _, _, _⟩, ⟨hlt, by rw [List.take_succ_eq_append_getElem hlt]; exact hK.snoc hV26⟩, by show is.length - (j + 1) < is.length - j; omega, Wk.re (.cons rfl lr (.cons rfl lr (.cons rfl lr (.cons rfl lr .nil)))) ((Reown.cons (Reown.cons (Reown.cons (Reown.cons (Reown.grp2 _ _ _)))))) (fun _ h => by first | exact h | simp [h])⟩
    have hge : is.length ≤ j := by simpa [EX.css_length] using c1
    refine J.exit (thenQ.x (thenQ.x (blkQ.hit (thenQ.n (J.seq (J.isSlice 3 rfl fun hs1 => J.reown (Reown.cons (Reown.cons (Reown.cons (Reown.grp2 _ _ _)))) (J.region_lit (Zq rfl (QW.load_box 0 ty79 (.tmp rfl) rfl rfl rfl) ?_))))))))
    refine JL.store_boxF 1 ty79 (.tmp rfl) rfl (.tmp rfl) rfl rfl rfl rfl (Zn (J.ret ?_))
    obtain rfl : j = is.length := by omega
    rw [List.take_length] at hK
    exact Zr [.k, .k, .k, .p] (RetEv.one rfl (REv.cell 1 ty79 rfl rfl rfl rfl lr)) rfl ⟨_, rfl, _, _, rfl, rfl, hs1, hK.tr hi80⟩
theorem of14_own {v : EX} {ys : List AV} {fr : Bool} (hv : Xc fr v ys) (hw : v.wf) : AC Tryz.prog 24 [] [.agg ys] (RetR (CopyE v)) := of14_n _ hv hw (Nat.le_refl _)
theorem of14_ok {v : EX} {ys : List AV} {fr : Bool} (hv : Xc fr v ys) (hw : v.wf) : Fn Tryz.prog 24 [.agg ys] (.agg (v.cs true)) := Fn.ofCopyE (of14_own hv hw)
end Go.Proofs.YtmccnmahegbmpaaGreat.J

/- Walks: an expression over a scope, with fuel. -/
namespace Go.Proofs.YtmccnmahegbmpaaGreat.J
open Go Go.RowKit
set_option maxRecDepth 10000
set_option maxHeartbeats 4000000
def zV : List AV := [.c (.int .i64 0), .c (.int .u64 0), .c (str []), .c (.slice none 0 0), .c (.slice none 0 0)]
def ScT.cs (s : ScT) : List AV := s.st.cs false ++ s.ev.cs false ++ s.it.cs false
def runAV (r : V × Int × Int) : AV := .tup [.agg (r.1.cs true), .c (.int .i64 r.2.1), .c (.int .i64 r.2.2)]
theorem runT_er {e : EX} {s : ScT} {f c : Int} (h : e.ev s f = .error c) : runT e s f = (.nil, 0, c) := by unfold runT; rw [h]
theorem runT_ok {e : EX} {s : ScT} {f f' : Int} {v : V} (h : e.ev s f = .ok (v, f')) : runT e s f = (v, f', 0) := by unfold runT; rw [h]
theorem run1_ret (a b c : Nat) (zs : List AV) (y z : Int) : DC Tryz.prog 86 [ibox c z, ibox b y, .box a zs] [.c (.pointer (some ⟨a, 0, none⟩)), .c (.pointer (some ⟨b, 0, none⟩)), .c (.pointer (some ⟨c, 0, none⟩))] .returning fun r u' o => r = .ret (.tup []) ∧ u' = .returning ∧ o = [ibox c z, ibox b y, .box a zs] := by
  refine DC.of_JD Tryz.func86 rfl Tryz.ntmps86 rfl fun w0 A0 => ?_
  refine JD.seq (JD.region_recover rfl rfl (.inl ⟨rfl, rfl, rfl⟩) rfl (Zq rfl (QW.assert_nil ⟨_, Tryz.underlying33, by intro ms h; cases h⟩ zeroErrno (.tmp rfl)) ?_))
  refine Zq rfl (QW.move (.tmp rfl)) (Zq rfl (QW.extract (.tmp rfl) rfl) (Zq rfl (QW.extract (.tmp rfl) rfl) (Zq rfl (QW.assign (.tmp rfl)) (Zq rfl (QW.assign (.tmp rfl)) (JL.nil ?_)))))
  refine thenD.nn ?_
  refine JD.of_J rfl (Zs (Zq rfl (QW.move (.tmp rfl)) (Zn ?_)))
  refine J.cond (.tmp rfl) (fun c1 => absurd c1 (by simp)) (fun c1 => ?_)
  refine J.skip ?_
  exact ⟨_, selP [.p, .p, .p] _, _, RetEv.none rfl , rfl, sel_perm [.p, .p, .p] _, ⟨rfl, rfl, rfl⟩⟩
theorem run1_pan (a b c : Nat) (zs : List AV) (hz : zs.length = 5) (y z e : Int) : DC Tryz.prog 86 [ibox c z, ibox b y, .box a zs] [.c (.pointer (some ⟨a, 0, none⟩)), .c (.pointer (some ⟨b, 0, none⟩)), .c (.pointer (some ⟨c, 0, none⟩))] (.panicking [{ v := errV e, recovered := false }]) fun r u' o => r = .ret (.tup []) ∧ u' = .panicking [{ v := errV e, recovered := true }] ∧ o = [ibox c e, ibox b 0, .box a zV] := by
  refine DC.of_JD Tryz.func86 rfl Tryz.ntmps86 rfl fun w0 A0 => ?_
  refine JD.seq (JD.region_recover rfl rfl (.inr ⟨[], rfl, rfl⟩) rfl (Zq rfl (QW.assert_hit ⟨_, Tryz.underlying33, by intro ms h; cases h⟩ (.tmp rfl)) ?_))
  refine Zq rfl (QW.move (.tmp rfl)) (Zq rfl (QW.extract (.tmp rfl) rfl) (Zq rfl (QW.extract (.tmp rfl) rfl) (Zq rfl (QW.assign (.tmp rfl)) (Zq rfl (QW.assign (.tmp rfl)) (JL.nil ?_)))))
  refine thenD.nn ?_
  refine JD.of_J rfl (Zs (Zq rfl (QW.move (.tmp rfl)) (Zn ?_)))
  refine J.cond (.tmp rfl) (fun c1 => ?_) (fun c1 => absurd c1 (by simp))
  refine J.region_lit (Zq rfl (QW.build (idx := []) pl26 z26 rfl .nil rfl rfl rfl rfl) (Zq rfl (QW.move (.tmp rfl)) (JL.store_box 2 ty26 (.tmp rfl) rfl (.tmp rfl) rfl rfl (by rw [hz]; rfl) (splice_all (by rw [hz]; rfl)) rfl ?_)))
  refine JL.store_box 1 ty3 (.tmp rfl) rfl .const rfl rfl rfl rfl rfl (JL.store_box 0 ty33 (.tmp rfl) rfl (.tmp rfl) rfl rfl rfl rfl rfl (JL.nil ?_))
  exact ⟨_, selP [.p, .p, .p] _, _, RetEv.none rfl , rfl, sel_perm [.p, .p, .p] _, ⟨rfl, rfl, rfl⟩⟩
theorem run_ok {fr : Bool} {e : EX} {ys : List AV} (he : Xc fr e ys) (hw : e.wf) (hf : e.Fine) {s : ScT} (hs : s.good) {f : Int} (h0 : okF f) : Fn Tryz.prog 76 [.agg ys, .agg s.cs, .c (.int .i64 f)] (runAV (runT e s f)) := by
  subst he
  obtain ⟨⟨ka, ua, ta, va, ia⟩, ⟨kb, ub, tb, vb, ib⟩, ⟨kc, uc, tc, vc, ic⟩⟩ := s
  have hs0 := hs
  refine AC.of_JD Tryz.func76 rfl Tryz.ntmps76 rfl fun w0 A0 => ?_
  refine Zs (JL.box_agg (.tmp rfl) rfl fun b3 => JL.box_agg (.tmp rfl) rfl fun b4 => JL.alloc z26 rfl rfl fun b6 => JL.alloc z3 rfl rfl fun b7 => JL.alloc z33 rfl rfl fun b8 => Zn (Zs (Zq rfl (QW.mkFunc .nil (.cons (.tmp rfl) (.cons (.tmp rfl) (.cons (.tmp rfl) .nil)))) (JL.defer rfl (.tmp rfl) ?_))))
  refine Zn (Zs (Zq rfl (QW.load_box 3 ty117 (.tmp rfl) rfl rfl rfl) (Zq rfl (QW.move (.tmp rfl)) (Zq rfl (QW.build (idx := [0, 1]) pl157 z157 rfl (.cons (.tmp rfl) (.cons (.tmp rfl) .nil)) rfl rfl rfl rfl) (JL.box_agg (.tmp rfl) rfl fun b14 => Zq rfl (QW.assign (.tmp rfl)) (Zn (Zs (Zq rfl (QW.move (.tmp rfl)) ?_))))))))
  refine Zq rfl (QW.load_box 5 ty79 (.tmp rfl) rfl (take_at xl rfl) xl) ?_
  refine JL.callPF [.p] gofn87 rfl Lent.nil (fun _ => (.cons (.tmp rfl) (.cons (.tmp rfl) .nil))) (meval_n _ e ⟨⟨ka, ua, ta, va, ia⟩, ⟨kb, ub, tb, vb, ib⟩, ⟨kc, uc, tc, vc, ic⟩⟩ f b14 fr hw hf hs h0 (Nat.le_refl _)) (.inl rfl) (fun k17 x17 o17 h17 => ?_) (fun k17 => ?_)
  rotate_left
  · skip
    refine thenQ.p ?_
    exact ⟨_, _, [], [_, _, _], selP [.p, .p, .p] _, _, rfl, rfl, gofn86, sel_perm [.p, .p, .p] _, DC.mono (run1_pan _ _ _ _ rfl _ _ _) fun r u' o ⟨h1, h2, h3⟩ => by subst h1 h2 h3; exact ⟨⟨_, rfl⟩, rfl, _, [], _, (RetEv.three rfl (REv.cell 2 ty26 rfl rfl rfl rfl (.aggL (.cons lr (.cons lr (.cons lr (.cons (.nil true false _) (.cons (.nil true false _) .nil))))))) (REv.cell1 1 ty3 rfl rfl rfl lr) (REv.cell1 0 ty33 rfl rfl rfl lr)), List.Perm.refl _, (congrArg (fun r => Res.ret (runAV r)) (runT_er (er_of k17)).symm), rfl⟩⟩
  obtain ⟨v17, f17, hv17, rfl, rfl⟩ := h17
  refine Zq rfl (QW.call gofn21 (.cons (.tmp rfl) .nil) (clone_rd Vc.self (ev_okF hw hf hs h0 hv17).1.wf)) (JL.store_boxF 3 ty26 (.tmp rfl) rfl (.tmp rfl) rfl vl rfl rfl (Zn (J.seq (J.regionX mixed (Zo 0 3 [] rfl (fun _ ho_ => QW.load_box 3 ty26 (.tmp rfl) ho_ (take_at vl rfl) vl) (Zf 1 [] rfl (fun _ => QW.move (.tmp rfl)) (Zf 2 [20] rfl (fun _ => QW.nil_ptr (.tmp rfl)) (Zf 3 [21] rfl (fun _ => QW.field_ptr fo157_1 (.tmp rfl) rfl) (Zo 4 0 [22] rfl (fun _ ho_ => QW.load_box1 0 ty3 (.tmp rfl) ho_ rfl) ?_)))))))))
  refine JX.one 5 [false, false, false, false, true] rfl (by kernel_rfl) (by kernel_rfl) rfl rfl (by kernel_rfl) rfl fun bs5_ pe_ ex_ => ?_
  refine JL.conv (by (try simp only [vlF, bxF, tkM, lvM, Flt.val, Flt.bx, nx, nl, stepsO, valO, nthO, curO, mrg, AV.cellsOf, splice_zero, splice_succ, Nat.reduceAdd]); rfl) ?_
  refine JL.store_boxF 3 ty26 (.tmp rfl) rfl (.tmp rfl) rfl vl vl rfl (JL.nil ?_)
  refine thenQ.n ⟨[], _, rfl, rfl, rfl, rfl, rfl, Reown.tkN 6 rfl, trivial, ⟨rfl, ⟨trivial, ⟨trivial, ⟨trivial, trivial⟩⟩⟩⟩, ?_⟩
  refine JX.conv (S' := [5, 0]) rfl (by (try simp only [lvM]); rfl) (by (try simp only [vlF, bxF, tkM, lvM, Flt.val, Flt.bx, nx, nl, stepsO, valO, nthO, curO, mrg, AV.cellsOf, splice_zero, splice_succ, Nat.reduceAdd]); rfl) ?_
  refine JX.one 6 [true, true, true, true] rfl (by kernel_rfl) (by kernel_rfl) rfl rfl (by kernel_rfl) rfl fun bs6_ pe_ ex_ => ?_
  refine JL.conv (by (try simp only [vlF, bxF, tkM, lvM, Flt.val, Flt.bx, nx, nl, stepsO, valO, nthO, curO, mrg, AV.cellsOf, splice_zero, splice_succ, Nat.reduceAdd]); rfl) ?_
  refine JL.store_box 2 ty3 (.tmp rfl) rfl (.tmp rfl) rfl rfl rfl rfl rfl (JL.nil ?_)
  refine thenQ.n ⟨[], _, rfl, rfl, rfl, rfl, rfl, Reown.tkN 6 rfl, trivial, trivial, ?_⟩
  refine JX.conv (S' := [6, 4, 3, 2, 1, 5, 0]) rfl (by (try simp only [lvM]); rfl) (by (try simp only [vlF, bxF, tkM, lvM, Flt.val, Flt.bx, nx, nl, stepsO, valO, nthO, curO, mrg, AV.cellsOf, splice_zero, splice_succ, Nat.reduceAdd]); rfl) ?_
  refine JX.one 7 [] rfl (by kernel_rfl) (by kernel_rfl) rfl rfl (by kernel_rfl) rfl fun bs7_ pe_ ex_ => ?_
  refine JL.conv (by (try simp only [vlF, bxF, tkM, lvM, Flt.val, Flt.bx, nx, nl, stepsO, valO, nthO, curO, mrg, AV.cellsOf, splice_zero, splice_succ, Nat.reduceAdd]); rfl) ?_
  refine JL.store_box 1 ty33 (.tmp rfl) rfl .const rfl rfl rfl rfl rfl (JL.nil ?_)
  refine thenQ.n ⟨[], _, rfl, rfl, rfl, rfl, rfl, Reown.tkN 6 rfl, trivial, trivial, ?_⟩
  refine JX.conv (S' := [7, 6, 4, 3, 2, 1, 5, 0]) rfl (by (try simp only [lvM]); rfl) (by (try simp only [vlF, bxF, tkM, lvM, Flt.val, Flt.bx, nx, nl, stepsO, valO, nthO, curO, mrg, AV.cellsOf, splice_zero, splice_succ, Nat.reduceAdd]); rfl) ?_
  refine JX.fin (by kernel_rfl) (by kernel_rfl) fun bs_ => ?_
  refine QX.conv (by (try simp only [vlF, bxF, tkM, lvM, Flt.val, Flt.bx, nx, nl, stepsO, valO, nthO, curO, mrg, AV.cellsOf, splice_zero, splice_succ, Nat.reduceAdd]); rfl) ?_
  refine thenQ.n (J.ret ?_)
  exact ⟨_, _, [], [_, _, _], selP [.k, .p, .p, .p] _, _, rfl, rfl, gofn86, sel_perm [.k, .p, .p, .p] _, DC.mono (run1_ret _ _ _ _ _ _) fun r u' o ⟨h1, h2, h3⟩ => by subst h1 h2 h3; exact ⟨⟨_, rfl⟩, rfl, _, [], _, (RetEv.three rfl (REv.cell 2 ty26 rfl rfl (take_at vl rfl) vl lr) (REv.cell1 1 ty3 rfl rfl rfl lr) (REv.cell1 0 ty33 rfl rfl rfl lr)), List.Perm.refl _, (congrArg (fun r => Res.ret (runAV r)) (runT_ok hv17).symm), rfl⟩⟩
theorem ScT.cs_len (s : ScT) : s.cs.length = 15 := by simp [ScT.cs, V.cs_length]
end Go.Proofs.YtmccnmahegbmpaaGreat.J

/- Programs as plain data: a first state, handlers; what an event makes of a state. -/
namespace Go.Proofs.YtmccnmahegbmpaaGreat.J
open Go Go.RowKit
structure SetT where
  key : Str
  ex : EX
structure EmT where
  wh : EX
  nm : Str
  ar : EX
structure HdT where
  on : Str
  sets : List SetT
  ems : List EmT
structure PgT where
  init : V
  hs : List HdT
def eSe : ETy := ⟨5, 72⟩
def eEm : ETy := ⟨9, 128⟩
def eHd : ETy := ⟨3, 64⟩
/-! cells -/
def SetT.cs (fr : Bool) (s : SetT) : List AV := .c (str s.key) :: s.ex.cs fr
def SetT.css (fr : Bool) (l : List SetT) : List (List AV) := l.map (SetT.cs fr)
def EmT.cs (fr : Bool) (e : EmT) : List AV := e.wh.cs fr ++ .c (str e.nm) :: e.ar.cs fr
def EmT.css (fr : Bool) (l : List EmT) : List (List AV) := l.map (EmT.cs fr)
def HdT.cs (fr : Bool) (h : HdT) : List AV := [.c (str h.on), .sl fr false eSe (SetT.css fr h.sets), .sl fr false eEm (EmT.css fr h.ems)]
def HdT.css (fr : Bool) (l : List HdT) : List (List AV) := l.map (HdT.cs fr)
def PgT.cs (fr : Bool) (p : PgT) : List AV := p.init.cs fr ++ [.sl fr false eHd (HdT.css fr p.hs)]
theorem SetT.cs_length (fr : Bool) (s : SetT) : (s.cs fr).length = 5 := by simp [SetT.cs, EX.cs_length]
theorem SetT.css_length (fr : Bool) (l : List SetT) : (SetT.css fr l).length = l.length := by simp [SetT.css]
theorem SetT.css_getE (fr : Bool) {l : List SetT} {i : Nat} (h : i < l.length) : (SetT.css fr l)[i]? = some ((l[i]).cs fr) := by simp [SetT.css, h]
theorem SetT.css_sz (fr : Bool) (l : List SetT) : ∀ x ∈ SetT.css fr l, x.length = eSe.sz := fun x hx => by obtain ⟨v, _, rfl⟩ := List.mem_map.1 hx; exact SetT.cs_length fr v
theorem EmT.cs_length (fr : Bool) (e : EmT) : (e.cs fr).length = 9 := by simp [EmT.cs, EX.cs_length]
theorem EmT.css_length (fr : Bool) (l : List EmT) : (EmT.css fr l).length = l.length := by simp [EmT.css]
theorem EmT.css_getE (fr : Bool) {l : List EmT} {i : Nat} (h : i < l.length) : (EmT.css fr l)[i]? = some ((l[i]).cs fr) := by simp [EmT.css, h]
theorem EmT.css_sz (fr : Bool) (l : List EmT) : ∀ x ∈ EmT.css fr l, x.length = eEm.sz := fun x hx => by obtain ⟨v, _, rfl⟩ := List.mem_map.1 hx; exact EmT.cs_length fr v
theorem HdT.cs_length (fr : Bool) (h : HdT) : (h.cs fr).length = 3 := rfl
theorem HdT.css_length (fr : Bool) (l : List HdT) : (HdT.css fr l).length = l.length := by simp [HdT.css]
theorem HdT.css_getE (fr : Bool) {l : List HdT} {i : Nat} (h : i < l.length) : (HdT.css fr l)[i]? = some ((l[i]).cs fr) := by simp [HdT.css, h]
theorem HdT.css_sz (fr : Bool) (l : List HdT) : ∀ x ∈ HdT.css fr l, x.length = eHd.sz := fun x hx => by obtain ⟨v, _, rfl⟩ := List.mem_map.1 hx; exact HdT.cs_length fr v
theorem PgT.cs_length (fr : Bool) (p : PgT) : (p.cs fr).length = 6 := by simp [PgT.cs, V.cs_length]
theorem SetT.css_snoc (fr : Bool) (l : List SetT) (x : SetT) : SetT.css fr l ++ [x.cs fr] = SetT.css fr (l ++ [x]) := by simp [SetT.css]
theorem EmT.css_snoc (fr : Bool) (l : List EmT) (x : EmT) : EmT.css fr l ++ [x.cs fr] = EmT.css fr (l ++ [x]) := by simp [EmT.css]
theorem HdT.css_snoc (fr : Bool) (l : List HdT) (x : HdT) : HdT.css fr l ++ [x.cs fr] = HdT.css fr (l ++ [x]) := by simp [HdT.css]
theorem EmT.at0 {fr : Bool} {e : EmT} : ((e.cs fr).drop 0).take 4 = e.wh.cs fr := by rw [List.drop_zero, EmT.cs, List.take_left' (EX.cs_length _ _)]
theorem EmT.at5 {fr : Bool} {e : EmT} : ((e.cs fr).drop 5).take 4 = e.ar.cs fr := by
  obtain ⟨⟨a, b, c, d⟩, n, ⟨a2, b2, c2, d2⟩⟩ := e; rfl
theorem EvT.at1 {fr : Bool} {e : EvT} : ((e.cs fr).drop 1).take 5 = e.arg.cs fr := by
  obtain ⟨n, ⟨a, b, c, d, f⟩⟩ := e; rfl
theorem SetT.at1 {fr : Bool} {s : SetT} : ((s.cs fr).drop 1).take 4 = s.ex.cs fr := by
  obtain ⟨n, ⟨a, b, c, d⟩⟩ := s; rfl
theorem EmT.at4 {fr : Bool} {e : EmT} : (e.cs fr)[4]? = some (.c (str e.nm)) := by
  obtain ⟨⟨a, b, c, d⟩, n, ⟨a2, b2, c2, d2⟩⟩ := e; rfl
theorem EmT.at4r {fr : Bool} {e : EmT} : ((e.cs fr).drop 4)[0]? = some (.c (str e.nm)) := by
  obtain ⟨⟨a, b, c, d⟩, n, ⟨a2, b2, c2, d2⟩⟩ := e; rfl
theorem EvT.at0 {fr : Bool} {e : EvT} : (e.cs fr)[0]? = some (.c (str e.name)) := rfl
theorem PgT.at5 {fr : Bool} {p : PgT} : (p.cs fr)[5]? = some (.sl fr false eHd (HdT.css fr p.hs)) := by
  obtain ⟨⟨a, b, c, d, f⟩, hs⟩ := p; rfl
theorem PgT.at0 {fr : Bool} {p : PgT} : ((p.cs fr).drop 0).take 5 = p.init.cs fr := by
  obtain ⟨⟨a, b, c, d, f⟩, hs⟩ := p; rfl
theorem map_at {vs : List Value} {j : Nat} (h : j < vs.length) : (vs.map fun v => [AV.c v])[j]? = some [AV.c vs[j]] := by simp [h]
/-! what fits a machine -/
structure SetT.wf (s : SetT) : Prop where
  key : s.key.length ≤ reach
  ex : s.ex.wf
structure EmT.wf (e : EmT) : Prop where
  wh : e.wh.wf
  nm : e.nm.length ≤ reach
  ar : e.ar.wf
structure HdT.wf (h : HdT) : Prop where
  on : h.on.length ≤ reach
  slen : h.sets.length * 72 ≤ reach
  sets : ∀ x ∈ h.sets, x.wf
  elen : h.ems.length * 128 ≤ reach
  ems : ∀ x ∈ h.ems, x.wf
structure PgT.wf (p : PgT) : Prop where
  init : p.init.wf
  hlen : p.hs.length * 64 ≤ reach
  hs : ∀ x ∈ p.hs, x.wf
/-! errors -/
def nameE (s : Str) : Int := if nameOk s then 0 else 31
def fstE : List Int → Int
  | [] => 0
  | e :: r => if e ≠ 0 then e else fstE r
def SetT.es (s : SetT) : List Int := [nameE s.key, s.ex.err]
def EmT.es (e : EmT) : List Int := [e.wh.err, nameE e.nm, e.ar.err]
def HdT.es (h : HdT) : List Int := nameE h.on :: (h.sets.flatMap SetT.es ++ h.ems.flatMap EmT.es)
def HdT.err (h : HdT) : Int := if 8 < h.sets.length ∨ 8 < h.ems.length then 3 else fstE h.es
def hIdx : List HdT → Str → Int → Int
  | [], _, _ => -1
  | h :: r, s, i => if h.on = s then i else hIdx r s (i + 1)
def PgT.at (p : PgT) (s : Str) : Int := hIdx p.hs s 0
def twiceB (p : PgT) : List HdT → Int → Bool
  | [], _ => false
  | h :: r, i => p.at h.on != i || twiceB p r (i + 1)
def PgT.err (p : PgT) : Int := if p.init.err ≠ 0 then p.init.err else if p.init.kind ≠ 5 then 81 else if 16 < p.hs.length then 3 else if fstE (p.hs.map HdT.err) ≠ 0 then fstE (p.hs.map HdT.err) else if twiceB p p.hs 0 then 6 else 0
theorem fstE_app (a b : List Int) : fstE (a ++ b) = if fstE a ≠ 0 then fstE a else fstE b := by
  induction a with
  | nil => simp [fstE]
  | cons x r ih =>
    simp only [List.cons_append, fstE]
    by_cases hx : x = 0
    · simp [hx, ih]
    · simp [hx]
theorem fstE_all {l : List Int} (h : fstE l = 0) : ∀ x ∈ l, x = 0 := by
  induction l with
  | nil => intro x hx; cases hx
  | cons y r ih =>
    unfold fstE at h
    by_cases hy : y = 0
    · rw [if_neg (fun h => h hy)] at h
      intro x hx
      rcases List.mem_cons.1 hx with rfl | hx
      · exact hy
      · exact ih h x hx
    · rw [if_pos hy] at h; exact absurd h hy
/-! what an event makes of a state -/
def valsE (s : ScT) (l : List SetT) (f : Int) : ER (List V) := EX.evs (l.map SetT.ex) s f
def putsE : V → List (SetT × V) → Except Int V
  | v, [] => .ok v
  | v, (s, x) :: r => if (v.setv [⟨true, s.key, 0⟩] x).2 = 0 then putsE (v.setv [⟨true, s.key, 0⟩] x).1 r else .error 84
def emsE (s : ScT) : List EmT → Int → ER (List EvT)
  | [], f => .ok ([], f)
  | x :: r, f => match truE (x.wh.ev s f) with
    | .error e => .error e
    | .ok (false, f1) => emsE s r f1
    | .ok (true, f1) => match x.ar.ev s f1 with
      | .error e => .error e
      | .ok (v, f2) => match emsE s r f2 with
        | .error e => .error e
        | .ok (l, f3) => .ok (⟨x.nm, v⟩ :: l, f3)
def HdT.runE (h : HdT) (st arg : V) : Except Int (V × List EvT) := match valsE ⟨st, arg, .nil⟩ h.sets 4096 with
  | .error e => .error e
  | .ok (vs, f) => match putsE st (h.sets.zip vs) with
    | .error e => .error e
    | .ok v => match emsE ⟨v, arg, .nil⟩ h.ems f with
      | .error e => .error e
      | .ok (l, _) => .ok (v, l)
def stepE (p : PgT) (st : V) (e : EvT) : Except Int (V × List EvT) :=
  if fstE [st.err, if st.kind = 5 then 0 else 81, nameE e.name, e.arg.err] ≠ 0 then .error (fstE [st.err, if st.kind = 5 then 0 else 81, nameE e.name, e.arg.err])
  else if p.at e.name < 0 then .error 71
  else match p.hs[(p.at e.name).toNat]? with
    | some h => h.runE st e.arg
    | none => .error 71
def outE (r : Except Int (V × List EvT)) : V × List EvT × Int := match r with
  | .error c => (.nil, [], c)
  | .ok (v, l) => (v, l, 0)
def stepT (p : PgT) (st : V) (e : EvT) : V × List EvT × Int := if p.err ≠ 0 then (.nil, [], p.err) else outE (stepE p st e)
def foldE (p : PgT) : V → List EvT → List EvT → Int → V × List EvT × Int × Int
  | st, out, [], i => (st, out, i, 0)
  | st, out, e :: r, i => match stepE p st e with
    | .error c => (st, out, i, c)
    | .ok (v, m) => foldE p v (out ++ m) r (i + 1)
def foldT (p : PgT) (l : List EvT) : V × List EvT × Int × Int := if p.err ≠ 0 then (.nil, [], 0, p.err) else foldE p p.init [] l 0
end Go.Proofs.YtmccnmahegbmpaaGreat.J

/- What programs and events among the inputs read as. -/
namespace Go.Proofs.YtmccnmahegbmpaaGreat.J
open Go Go.RowKit
set_option maxRecDepth 10000
set_option maxHeartbeats 4000000
theorem EvT.rd {H : Type} {enc : TypeId × Value → H} {w : World} : ∀ (fuel : Nat) (cs : List Value) (x : DataW H × List MemPlace), trd enc Tryz.prog w fuel 47 cs = some x → Fits Tryz.prog 47 x.1 → ∃ v : EvT, v.wf ∧ RdC w cs (v.cs false) := by
  intro fuel
  intro cs x h hf
  obtain ⟨xs, n, rfl, rfl, hl, hlen, hg⟩ := DataW.trod_struct Tryz.underlying47 h
  obtain ⟨y0, y1, rfl⟩ : ∃ y0 y1, xs = [y0, y1] := by
    match xs, hlen with
    | [y0, y1], _ => exact ⟨y0, y1, rfl⟩
  have h0 := hg 0 _ rfl
  obtain ⟨a0, b0, r0⟩ := rd_str Tryz.underlying9 h0 (Fits.field Tryz.underlying47 hf (i := 0) rfl rfl)
  have h1 := hg 1 _ rfl
  obtain ⟨a1, b1, r1⟩ := V.rd n _ _ h1 (Fits.field Tryz.underlying47 hf (i := 1) rfl rfl)
  refine ⟨⟨a0, a1⟩, ⟨b0, b1⟩, ?_⟩
  have := (RdC.join r0 (by kernel_rfl) (by kernel_rfl) (RdC.last r1 (hl.trans (by kernel_rfl))))
  simpa [EvT.cs] using this
theorem SetT.rd {H : Type} {enc : TypeId × Value → H} {w : World} : ∀ (fuel : Nat) (cs : List Value) (x : DataW H × List MemPlace), trd enc Tryz.prog w fuel 62 cs = some x → Fits Tryz.prog 62 x.1 → ∃ v : SetT, v.wf ∧ RdC w cs (v.cs false) := by
  intro fuel
  intro cs x h hf
  obtain ⟨xs, n, rfl, rfl, hl, hlen, hg⟩ := DataW.trod_struct Tryz.underlying62 h
  obtain ⟨y0, y1, rfl⟩ : ∃ y0 y1, xs = [y0, y1] := by
    match xs, hlen with
    | [y0, y1], _ => exact ⟨y0, y1, rfl⟩
  have h0 := hg 0 _ rfl
  obtain ⟨a0, b0, r0⟩ := rd_str Tryz.underlying9 h0 (Fits.field Tryz.underlying62 hf (i := 0) rfl rfl)
  have h1 := hg 1 _ rfl
  obtain ⟨a1, b1, r1⟩ := EX.rd n _ _ h1 (Fits.field Tryz.underlying62 hf (i := 1) rfl rfl)
  refine ⟨⟨a0, a1⟩, ⟨b0, b1⟩, ?_⟩
  have := (RdC.join r0 (by kernel_rfl) (by kernel_rfl) (RdC.last r1 (hl.trans (by kernel_rfl))))
  simpa [SetT.cs] using this
theorem EmT.rd {H : Type} {enc : TypeId × Value → H} {w : World} : ∀ (fuel : Nat) (cs : List Value) (x : DataW H × List MemPlace), trd enc Tryz.prog w fuel 84 cs = some x → Fits Tryz.prog 84 x.1 → ∃ v : EmT, v.wf ∧ RdC w cs (v.cs false) := by
  intro fuel
  intro cs x h hf
  obtain ⟨xs, n, rfl, rfl, hl, hlen, hg⟩ := DataW.trod_struct Tryz.underlying84 h
  obtain ⟨y0, y1, y2, rfl⟩ : ∃ y0 y1 y2, xs = [y0, y1, y2] := by
    match xs, hlen with
    | [y0, y1, y2], _ => exact ⟨y0, y1, y2, rfl⟩
  have h0 := hg 0 _ rfl
  obtain ⟨a0, b0, r0⟩ := EX.rd n _ _ h0 (Fits.field Tryz.underlying84 hf (i := 0) rfl rfl)
  have h1 := hg 1 _ rfl
  obtain ⟨a1, b1, r1⟩ := rd_str Tryz.underlying9 h1 (Fits.field Tryz.underlying84 hf (i := 1) rfl rfl)
  have h2 := hg 2 _ rfl
  obtain ⟨a2, b2, r2⟩ := EX.rd n _ _ h2 (Fits.field Tryz.underlying84 hf (i := 2) rfl rfl)
  refine ⟨⟨a0, a1, a2⟩, ⟨b0, b1, b2⟩, ?_⟩
  have := (RdC.join r0 (by rw [EX.cs_length]; kernel_rfl) (by kernel_rfl) ((RdC.join r1 (by kernel_rfl) (by kernel_rfl) (RdC.last r2 (hl.trans (by kernel_rfl))))))
  simpa [EmT.cs] using this
theorem HdT.rd {H : Type} {enc : TypeId × Value → H} {w : World} : ∀ (fuel : Nat) (cs : List Value) (x : DataW H × List MemPlace), trd enc Tryz.prog w fuel 57 cs = some x → Fits Tryz.prog 57 x.1 → ∃ v : HdT, v.wf ∧ RdC w cs (v.cs false) := by
  intro fuel
  intro cs x h hf
  obtain ⟨xs, n, rfl, rfl, hl, hlen, hg⟩ := DataW.trod_struct Tryz.underlying57 h
  obtain ⟨y0, y1, y2, rfl⟩ : ∃ y0 y1 y2, xs = [y0, y1, y2] := by
    match xs, hlen with
    | [y0, y1, y2], _ => exact ⟨y0, y1, y2, rfl⟩
  have h0 := hg 0 _ rfl
  obtain ⟨a0, b0, r0⟩ := rd_str Tryz.underlying9 h0 (Fits.field Tryz.underlying57 hf (i := 0) rfl rfl)
  have h1 := hg 1 _ rfl
  obtain ⟨a1, b1, c1, r1⟩ := rd_slice (ei := eSe) (f := SetT.cs false) (Wf := SetT.wf) Tryz.underlying54 (by kernel_rfl) (by kernel_rfl) (by decide) h1 (Fits.field Tryz.underlying57 hf (i := 1) rfl rfl) (fun _ => SetT.cs_length false _) (fun m cs' y hm hy hfy => SetT.rd m cs' y hy hfy)
  have h2 := hg 2 _ rfl
  obtain ⟨a2, b2, c2, r2⟩ := rd_slice (ei := eEm) (f := EmT.cs false) (Wf := EmT.wf) Tryz.underlying55 (by kernel_rfl) (by kernel_rfl) (by decide) h2 (Fits.field Tryz.underlying57 hf (i := 2) rfl rfl) (fun _ => EmT.cs_length false _) (fun m cs' y hm hy hfy => EmT.rd m cs' y hy hfy)
  refine ⟨⟨a0, a1, a2⟩, ⟨b0, c1, b1, c2, b2⟩, ?_⟩
  have := (RdC.join r0 (by kernel_rfl) (by kernel_rfl) ((RdC.join r1 (by kernel_rfl) (by kernel_rfl) (RdC.last r2 (hl.trans (by kernel_rfl))))))
  simpa [HdT.cs, SetT.css, EmT.css] using this
theorem PgT.rd {H : Type} {enc : TypeId × Value → H} {w : World} : ∀ (fuel : Nat) (cs : List Value) (x : DataW H × List MemPlace), trd enc Tryz.prog w fuel 29 cs = some x → Fits Tryz.prog 29 x.1 → ∃ v : PgT, v.wf ∧ RdC w cs (v.cs false) := by
  intro fuel
  intro cs x h hf
  obtain ⟨xs, n, rfl, rfl, hl, hlen, hg⟩ := DataW.trod_struct Tryz.underlying29 h
  obtain ⟨y0, y1, rfl⟩ : ∃ y0 y1, xs = [y0, y1] := by
    match xs, hlen with
    | [y0, y1], _ => exact ⟨y0, y1, rfl⟩
  have h0 := hg 0 _ rfl
  obtain ⟨a0, b0, r0⟩ := V.rd n _ _ h0 (Fits.field Tryz.underlying29 hf (i := 0) rfl rfl)
  have h1 := hg 1 _ rfl
  obtain ⟨a1, b1, c1, r1⟩ := rd_slice (ei := eHd) (f := HdT.cs false) (Wf := HdT.wf) Tryz.underlying27 (by kernel_rfl) (by kernel_rfl) (by decide) h1 (Fits.field Tryz.underlying29 hf (i := 1) rfl rfl) (fun _ => HdT.cs_length false _) (fun m cs' y hm hy hfy => HdT.rd m cs' y hy hfy)
  refine ⟨⟨a0, a1⟩, ⟨b0, c1, b1⟩, ?_⟩
  have := (RdC.join r0 (by rw [V.cs_length]; kernel_rfl) (by kernel_rfl) (RdC.last r1 (hl.trans (by kernel_rfl))))
  simpa [PgT.cs, HdT.css] using this
end Go.Proofs.YtmccnmahegbmpaaGreat.J

/- A slice literal as an own array. -/
namespace Go.Proofs.YtmccnmahegbmpaaGreat.J
open Go Go.RowKit
section
variable {P : Program} {E : Ent} {Q : Exit → St → Prop} {n : Nat} {env : List (Nat × AV)} {own : List Own} {F : List (Value × AV)} {D : List Deferred} {ops : Array Oper} {rest : List Oper}
variable {ty t et : TypeId} {pos : String} {af : Array Edge} {d : Nat}
theorem JL.buildOwn {e : ETy} {zc : List Value} {idx : List Nat} {l : List Operand} {zs : List AV} {xs : List (List AV)} {parts : Array (Nat × Operand)} {len : Nat} (hU : P.underlying t = some (.slice et)) (hE : elemB P et e = true)
    (hz : zeroCells P et = some zc) (hz1 : zc.all (·.oneCell') = true) (hl : EvL E ⟨n, env, own, F, D⟩ l zs) (hparts : parts = (idx.zip l).toArray) (hp : zs.all AV.plain = true) (hi : idx.length = l.length) (hsmall : Nat.ble (len * e.sz) 16777216 = true) (hpos : Nat.blt 0 (len * e.sz) = true)
    (hf : fillA (fun i => some (i * e.sz, e.sz)) ((List.range (len * e.sz)).map fun k => AV.c (zc.getD (k % zc.length) undef)) (idx.zip (zs.map AV.cellsOf)) = some xs.flatten) (hlen : xs.length = len) (hxl : (xs.all fun x => Nat.beq x.length e.sz) = true) (hd : Nat.blt d n = true)
    (h : ∀ v, JL P E ops rest ⟨n, (d, .c v) :: env, .arr v e xs :: own, F, D⟩ Q) :
    JL P E ops (⟨some d, .buildSlice t len parts, ty, pos, af, none⟩ :: rest) ⟨n, env, own, F, D⟩ Q := fun a w ⟨A, hA⟩ => by
  refine wpListIn_plain rfl fun K hK => ?_
  refine wpR (by intro c h; cases h) ?_
  unfold Oper.wp
  obtain ⟨cs, hr, hs, hc⟩ := run_buildSlice0 (pl := fun _ => none) (dd := some d) (ty := ty) (pos := pos) (af := af) (gd := none) hU hE hz hz1 hA hl hparts hp hi hsmall hpos hf
  have hl1 : 0 < len := by
    have := blt_lt hpos
    exact Nat.pos_of_ne_zero fun h => by subst h; simp at this
  have hsz : ∀ x ∈ xs, x.length = e.sz := fun x hx => Nat.eq_of_beq_eq_true ((List.all_eq_true.1 hxl) x hx)
  rw [hr, Oper.upon_value]
  have hs2 := hA.step (.push _ _ _) (fun _ _ h => h) (hA.hp.push_box (us := cs) (t := et) hA.keep.size hs hc)
  have hs3 := hs2.fold (i := 0) (b := w.heap.size) (cap := len - 1) (v := .slice (some ⟨w.heap.size, 0, none⟩) len len) (e := e) (xs := xs) rfl (by rw [hlen, show len - 1 + 1 = len by omega]) (by omega) hsz
    (by rw [show len - 1 + 1 = len by omega, ← hlen]; exact flatten_length xs hsz) (by rw [List.take_length])
  exact hK _ _ (h (.slice (some ⟨w.heap.size, 0, none⟩) len len) _ _ ⟨A, hs3.put (blt_lt hd) (.c _)⟩)
end
end Go.Proofs.YtmccnmahegbmpaaGreat.J

/- make of a slice, read alone. -/
namespace Go.Proofs.YtmccnmahegbmpaaGreat.J
open Go Go.RowKit
end Go.Proofs.YtmccnmahegbmpaaGreat.J

/- One of a group, taken out and laid back. -/
namespace Go.Proofs.YtmccnmahegbmpaaGreat.J
open Go Go.RowKit
theorem Reown.pick (l1 l2 : List Own) (o : Own) (a : List Own) : Reown (.grp (l1 ++ o :: l2) :: a) (o :: .grp (l1 ++ l2) :: a) := by
  refine (Reown.open (l1 ++ o :: l2) a).trans ((Reown.perm (b := o :: ((l1 ++ l2) ++ a)) ?_).trans (Reown.cons (Reown.shut (l1 ++ l2) a)))
  rw [List.append_assoc, List.append_assoc, List.cons_append]
  exact List.perm_middle
theorem Reown.unpick (l1 l2 : List Own) (o : Own) (a : List Own) : Reown (o :: .grp (l1 ++ l2) :: a) (.grp (l1 ++ o :: l2) :: a) := by
  refine (Reown.cons (Reown.open (l1 ++ l2) a)).trans ((Reown.perm (b := (l1 ++ o :: l2) ++ a) ?_).trans (Reown.shut (l1 ++ o :: l2) a))
  rw [List.append_assoc, List.append_assoc, List.cons_append]
  exact List.perm_middle.symm
end Go.Proofs.YtmccnmahegbmpaaGreat.J

/- Walks: events: may one be, lists of them. -/
namespace Go.Proofs.YtmccnmahegbmpaaGreat.J
open Go Go.RowKit
set_option maxRecDepth 10000
set_option maxHeartbeats 4000000
theorem name_ok (s : Str) : Fn Tryz.prog 53 [.c (str s)] (.c (.bool (nameOk s))) := by
  refine AC.of_J Tryz.func53 rfl Tryz.ntmps53 rfl fun w0 A0 => ?_
  refine Zs (Zq rfl (QW.assign .const) (Zn (Zs (Zq rfl (QW.move (.tmp rfl)) (Zq rfl (QW.neq_s (.tmp rfl) .const) (Zq rfl (QW.move (.tmp rfl)) (Zg rfl (fun hg => (QW.move (.tmp rfl))) (Zg rfl (fun hg => (QW.len_s st9 (.when rfl hg))) (Zg rfl (fun hg => (QW.leq (.when rfl hg) .const)) ?_)))))))))
  exact Zq rfl (QW.pick_and (.tmp rfl) (.tmp rfl)) (Zq rfl (QW.assign (.tmp rfl)) (Zn (J.ret (Zr [] (RetEv.one rfl (REv.tmp rfl lr)) rfl ⟨by simp only [nameOk, keyOk]; congr 3; rw [Bool.eq_iff_iff]; cases s <;> simp [bne] <;> omega, rfl⟩))))
end Go.Proofs.YtmccnmahegbmpaaGreat.J

/- Walks: checks, one by one: the closures that look for an error. -/
namespace Go.Proofs.YtmccnmahegbmpaaGreat.J
open Go Go.RowKit
set_option maxRecDepth 10000
set_option maxHeartbeats 4000000
def eFn : ETy := ⟨1, 8⟩
def fptr (b : Nat) : Value := .pointer (some ⟨b, 0, none⟩)
def CloS (G : Own) (v : Value) (e : Int) : Prop := ∃ (g : FuncId) (ca : List Value), v = .func (.func g) #[] ca.toArray ∧ goFn Tryz.prog g = true ∧ AC Tryz.prog g [G] (ca.map AV.c) (RetR fun x o => x = .c (.int .i64 e) ∧ o = [G])
theorem clo_name {l1 l2 : List Own} {b : Nat} {s : Str} : AC Tryz.prog 52 [.grp (l1 ++ .box b [.c (str s)] :: l2)] [.c (fptr b)] (RetR fun x o => x = .c (.int .i64 (nameE s)) ∧ o = [.grp (l1 ++ .box b [.c (str s)] :: l2)]) := by
  refine AC.of_J Tryz.func52 rfl Tryz.ntmps52 rfl fun w0 A0 => ?_
  refine J.seq (J.reown (Reown.pick _ _ _ []) (J.region_lit (Zq rfl (QW.assign .const) (Zn (J.seq (Zs (Zq rfl (QW.load_box1 0 ty9 (.tmp rfl) rfl rfl) (Zq rfl (QW.call gofn53 (.cons (.tmp rfl) .nil) (name_ok _)) (Zq rfl (QW.not (.tmp rfl)) ?_)))))))))
  refine Zn ?_
  refine J.cond (.tmp rfl) (fun c1 => ?_) (fun c1 => ?_)
  · skip
    have hn : nameOk s = false := by simpa using c1
    exact J.seq (J.reown (Reown.unpick _ _ _ []) (J.region_lit (Zq rfl (QW.assign .const) (Zn (J.ret (thenQ.r (Zr [.p] (RetEv.one rfl (REv.tmp rfl lr)) rfl ⟨_, rfl, by rw [nameE, hn]; rfl, rfl⟩)))))))
  have hn : nameOk s = true := by simpa using c1
  exact Zk (J.seq (J.reown (Reown.unpick _ _ _ []) (J.region_lit (Zq rfl (QW.assign .const) (Zn (J.ret (Zr [.p] (RetEv.one rfl (REv.tmp rfl lr)) rfl ⟨_, rfl, by rw [nameE, hn]; rfl, rfl⟩)))))))
theorem clo_st1 {l1 l2 : List Own} {b : Nat} {v : V} {fr : Bool} (hw : v.wf) : AC Tryz.prog 35 [.grp (l1 ++ .box b (v.cs fr) :: l2)] [.c (fptr b)] (RetR fun x o => x = .c (.int .i64 v.err) ∧ o = [.grp (l1 ++ .box b (v.cs fr) :: l2)]) := by
  refine AC.of_J Tryz.func35 rfl Tryz.ntmps35 rfl fun w0 A0 => ?_
  refine J.seq (J.reown (Reown.pick _ _ _ []) (J.region_lit (Zq rfl (QW.assign .const) (Zn (Zs (Zq rfl (by first | exact QW.load_box 0 ty26 (.tmp rfl) rfl rfl rfl | exact QW.load_box 0 ty26 (.tmp rfl) rfl (take_at vl rfl) vl) ?_))))))
  exact Zq rfl (QW.call gofn16 (.cons (.tmp rfl) .nil) (check_ok Vc.self hw)) (JL.reown (Reown.unpick _ _ _ []) (Zq rfl (QW.assign (.tmp rfl)) (Zn (J.ret (Zr [.p] (RetEv.one rfl (REv.tmp rfl lr)) rfl ⟨_, rfl, rfl, rfl⟩)))))
theorem clo_st2 {l1 l2 : List Own} {b : Nat} {v : V} {fr : Bool} : AC Tryz.prog 36 [.grp (l1 ++ .box b (v.cs fr) :: l2)] [.c (fptr b)] (RetR fun x o => x = .c (.int .i64 (if v.kind = 5 then 0 else 81)) ∧ o = [.grp (l1 ++ .box b (v.cs fr) :: l2)]) := by
  obtain ⟨vk, vb, vt, vks, vis⟩ := v
  refine AC.of_J Tryz.func36 rfl Tryz.ntmps36 rfl fun w0 A0 => ?_
  refine J.seq (J.reown (Reown.pick _ _ _ []) (J.region_lit (Zq rfl (QW.assign .const) (Zn (J.seq (Zs (Zq rfl (QW.field_ptr fo26_0 (.tmp rfl) rfl) (Zq rfl (QW.load_box1 0 ty3 (.tmp rfl) rfl rfl) (Zq rfl (QW.neq (.tmp rfl) .const) ?_)))))))))
  refine Zn ?_
  refine J.cond (.tmp rfl) (fun c1 => ?_) (fun c1 => ?_)
  · skip
    have hk : ¬ vk = 5 := by simpa using c1
    exact J.seq (J.reown (Reown.unpick _ _ _ []) (J.region_lit (Zq rfl (QW.assign .const) (Zn (J.ret (thenQ.r (Zr [.p] (RetEv.one rfl (REv.tmp rfl lr)) rfl ⟨_, rfl, by simp [V.kind, hk], rfl⟩)))))))
  have hk : vk = 5 := by simpa using c1
  exact Zk (J.seq (J.reown (Reown.unpick _ _ _ []) (J.region_lit (Zq rfl (QW.assign .const) (Zn (J.ret (Zr [.p] (RetEv.one rfl (REv.tmp rfl lr)) rfl ⟨_, rfl, by simp [V.kind, hk], rfl⟩)))))))
theorem clo_st3 {l1 l2 : List Own} {b : Nat} {e : EvT} {fr : Bool} (hw : e.wf) : AC Tryz.prog 38 [.grp (l1 ++ .box b (e.cs fr) :: l2)] [.c (fptr b)] (RetR fun x o => x = .c (.int .i64 e.arg.err) ∧ o = [.grp (l1 ++ .box b (e.cs fr) :: l2)]) := by
  refine AC.of_J Tryz.func38 rfl Tryz.ntmps38 rfl fun w0 A0 => ?_
  refine J.seq (J.reown (Reown.pick _ _ _ []) (J.region_lit (Zq rfl (QW.assign .const) (Zn (Zs (Zq rfl (QW.field_ptr fo47_1 (.tmp rfl) rfl) (Zq rfl (QW.load_box 0 ty26 (.tmp rfl) rfl EvT.at1 vl) (Zq rfl (QW.call gofn16 (.cons (.tmp rfl) .nil) (check_ok Vc.self hw.arg)) (JL.reown (Reown.unpick _ _ _ []) ?_)))))))))
  exact Zq rfl (QW.assign (.tmp rfl)) (Zn (J.ret (Zr [.p] (RetEv.one rfl (REv.tmp rfl lr)) rfl ⟨_, rfl, rfl, rfl⟩)))
theorem clo_ch1 {l1 l2 : List Own} {b : Nat} {s : SetT} {fr : Bool} (hw : s.wf) : AC Tryz.prog 46 [.grp (l1 ++ .box b (s.cs fr) :: l2)] [.c (fptr b)] (RetR fun x o => x = .c (.int .i64 s.ex.err) ∧ o = [.grp (l1 ++ .box b (s.cs fr) :: l2)]) := by
  refine AC.of_J Tryz.func46 rfl Tryz.ntmps46 rfl fun w0 A0 => ?_
  refine J.seq (J.reown (Reown.pick _ _ _ []) (J.region_lit (Zq rfl (QW.assign .const) (Zn (Zs (Zq rfl (QW.field_ptr fo82_1 (.tmp rfl) rfl) (Zq rfl (QW.load_box 0 ty79 (.tmp rfl) rfl SetT.at1 xl) (Zq rfl (QW.call gofn47 (.cons (.tmp rfl) .nil) (echeck_ok Xc.self hw.ex)) (JL.reown (Reown.unpick _ _ _ []) ?_)))))))))
  exact Zq rfl (QW.assign (.tmp rfl)) (Zn (J.ret (Zr [.p] (RetEv.one rfl (REv.tmp rfl lr)) rfl ⟨_, rfl, rfl, rfl⟩)))
theorem clo_ch2 {l1 l2 : List Own} {b : Nat} {e : EmT} {fr : Bool} (hw : e.wf) : AC Tryz.prog 48 [.grp (l1 ++ .box b (e.cs fr) :: l2)] [.c (fptr b)] (RetR fun x o => x = .c (.int .i64 e.wh.err) ∧ o = [.grp (l1 ++ .box b (e.cs fr) :: l2)]) := by
  refine AC.of_J Tryz.func48 rfl Tryz.ntmps48 rfl fun w0 A0 => ?_
  refine J.seq (J.reown (Reown.pick _ _ _ []) (J.region_lit (Zq rfl (QW.assign .const) (Zn (Zs (Zq rfl (QW.field_ptr fo86_0 (.tmp rfl) rfl) (Zq rfl (QW.load_box 0 ty79 (.tmp rfl) rfl EmT.at0 xl) (Zq rfl (QW.call gofn47 (.cons (.tmp rfl) .nil) (echeck_ok Xc.self hw.wh)) (JL.reown (Reown.unpick _ _ _ []) ?_)))))))))
  exact Zq rfl (QW.assign (.tmp rfl)) (Zn (J.ret (Zr [.p] (RetEv.one rfl (REv.tmp rfl lr)) rfl ⟨_, rfl, rfl, rfl⟩)))
theorem clo_ch3 {l1 l2 : List Own} {b : Nat} {e : EmT} {fr : Bool} (hw : e.wf) : AC Tryz.prog 49 [.grp (l1 ++ .box b (e.cs fr) :: l2)] [.c (fptr b)] (RetR fun x o => x = .c (.int .i64 e.ar.err) ∧ o = [.grp (l1 ++ .box b (e.cs fr) :: l2)]) := by
  refine AC.of_J Tryz.func49 rfl Tryz.ntmps49 rfl fun w0 A0 => ?_
  refine J.seq (J.reown (Reown.pick _ _ _ []) (J.region_lit (Zq rfl (QW.assign .const) (Zn (Zs (Zq rfl (QW.field_ptr fo86_2 (.tmp rfl) rfl) (Zq rfl (QW.load_box 0 ty79 (.tmp rfl) rfl EmT.at5 xl) (Zq rfl (QW.call gofn47 (.cons (.tmp rfl) .nil) (echeck_ok Xc.self hw.ar)) (JL.reown (Reown.unpick _ _ _ []) ?_)))))))))
  exact Zq rfl (QW.assign (.tmp rfl)) (Zn (J.ret (Zr [.p] (RetEv.one rfl (REv.tmp rfl lr)) rfl ⟨_, rfl, rfl, rfl⟩)))
theorem checks_ok {fr cl : Bool} {G : Own} {fs : List Value} {es : List Int} (hl : fs.length = es.length) (hs : ∀ i (h : i < fs.length) (h2 : i < es.length), CloS G fs[i] es[i]) (hr : fs.length * 8 ≤ reach) :
    AC Tryz.prog 34 [G] [.sl fr cl eFn (fs.map fun v => [AV.c v])] (RetR fun x o => x = .c (.int .i64 (fstE es)) ∧ o = [G]) := by
  have hlen : fs.length ≤ 9223372036854775805 := by unfold reach at hr; omega
  refine AC.of_J Tryz.func34 rfl Tryz.ntmps34 rfl fun w0 A0 => ?_
  refine Zs (Zq rfl (QW.assign .const) (Zn (J.seq (Zs (Zq rfl (QW.move (.tmp rfl)) (Zq rfl (by first | exact QW.len_slE sl111 (.tmp rfl) wl | exact QW.len_slE sl111 (.tmp rfl) (EX.css_length _ _) | exact QW.len_sl sl111 (.tmp rfl) | exact QW.len_nil sl111 (.tmp rfl)) ?_))))))
  refine Zq rfl (QW.move .const) (Zn (J.block (J.loopK (ι := Nat) [6, 7] (fun j => [(8, .c (.int .i64 (j : Int)))]) (fun _ oo => oo) (fun j => j ≤ fs.length ∧ fstE es = fstE (es.drop j)) (fun j => fs.length - j) 0 (⟨Nat.zero_le _, rfl⟩) (Wk.re (.cons rfl lr (.cons rfl lr (.cons rfl lr .nil))) (Reown.refl _) (fun _ h => by first | exact h | simp [h])) ?_)))
  intro j ⟨hj, hf⟩
  refine J.conv (by (try simp only [nl, stepsO, valO, nthO, curO, mrg, AV.cellsOf, splice_zero, splice_succ, Nat.reduceAdd]); rfl) ?_
  refine Zs (Zq rfl (QW.lss (.tmp rfl) (.tmp rfl)) (Zn (J.seq ?_)))
  refine J.cond (.tmp rfl) (fun c1 => ?_) (fun c1 => ?_)
  · skip
    have hlt : j < fs.length := by simpa using c1
    refine Zk (J.seq (J.block (Zs (Zq rfl (QW.index_sl sl111 ty94 rfl (.tmp rfl) (.tmp rfl) (by first | rfl | omega | (simp; done)) (by exact map_at hlt)) ?_))))
    refine Zq rfl (QW.load_ref1 ty94 (.tmp rfl) rfl) (Zq rfl (QW.assign (.tmp rfl)) (Zn (Zs (Zq rfl (QW.move (.tmp rfl)) ?_))))
    obtain ⟨g1, ca, hv, hgo, hAC⟩ := hs j hlt (by omega)
    rw [hv]
    refine JL.callR [.p] hgo rfl (.tmp rfl) Lent.nil (fun _ => .nil) rfl (hAC) (.inl rfl) fun x13 o13 h13 => ?_
    obtain ⟨rfl, rfl⟩ := h13
    refine Zq rfl (QW.assign (.tmp rfl)) (Zn (Zs (Zq rfl (QW.move (.tmp rfl)) (Zq rfl (QW.neq (.tmp rfl) .const) (Zn ?_)))))
    refine J.cond (.tmp rfl) (fun c2 => ?_) (fun c2 => ?_)
    · skip
      have hne : ¬ es[j] = 0 := by simpa using c2
      exact Zs (Zq rfl (QW.move (.tmp rfl)) (Zq rfl (QW.assign (.tmp rfl)) (Zn (J.ret (blkQ.r (thenQ.r (thenQ.r (blkQ.r (thenQ.r (Zr [.p] (RetEv.one rfl (REv.tmp rfl lr)) rfl ⟨_, rfl, by rw [hf, List.drop_eq_getElem_cons (by omega : j < es.length), fstE, if_pos hne], rfl⟩))))))))))
    have he0 : es[j] = 0 := by simpa using c2
    refine J.skip (blkQ.n (thenQ.n (J.region_lit (Zq rfl (QW.add (.tmp rfl) .const (by first | exact w64n (by first | rfl | omega | (simp; done)) (by omega) | exact w64 (by omega) | rfl)) ?_))))
    refine Zq rfl (QW.move (.tmp rfl)) (Zn ?_)
    exact ⟨j + 1, ⟨hlt, by rw [hf, List.drop_eq_getElem_cons (by omega : j < es.length), fstE, if_neg (fun h => h he0)]⟩, by omega, Wk.re (.cons rfl lr (.cons rfl lr (.cons rfl lr .nil))) (Reown.refl _) (fun _ h => by first | exact h | simp [h])⟩
  have hge : fs.length ≤ j := by simpa using c1
  rw [List.drop_of_length_le (by omega)] at hf
  exact J.exit (thenQ.x (thenQ.x (blkQ.hit (thenQ.n (Zs (Zq rfl (QW.assign .const) (Zn (J.ret (Zr [.p] (RetEv.one rfl (REv.tmp rfl lr)) rfl ⟨_, rfl, by rw [hf]; rfl, rfl⟩)))))))))
end Go.Proofs.YtmccnmahegbmpaaGreat.J

/- Walks: may a handler be? where is an event's handler? may a program be? -/
namespace Go.Proofs.YtmccnmahegbmpaaGreat.J
open Go Go.RowKit
set_option maxRecDepth 10000
set_option maxHeartbeats 4000000
def CloO (o : Own) (v : Value) (e : Int) : Prop := ∀ l1 l2, CloS (.grp (l1 ++ o :: l2)) v e
def ClP (os : List Own) (ps : List (Value × Int)) : Prop := ∀ p ∈ ps, ∃ o ∈ os, CloO o p.1 p.2
theorem ClP.clos {os : List Own} {ps : List (Value × Int)} (h : ClP os ps) : ∀ i (hi : i < (ps.map (·.1)).length) (h2 : i < (ps.map (·.2)).length), CloS (.grp os) (ps.map (·.1))[i] (ps.map (·.2))[i] := fun i hi h2 => by
  have hi' : i < ps.length := by simpa using hi
  obtain ⟨o, ho, hc⟩ := h _ (List.getElem_mem hi')
  obtain ⟨l1, l2, rfl⟩ := List.append_of_mem ho
  simpa using hc l1 l2
theorem ClP.add {os os' : List Own} {ps qs : List (Value × Int)} (h : ClP os ps) (hsub : ∀ o ∈ os, o ∈ os') (hq : ∀ p ∈ qs, ∃ o ∈ os', CloO o p.1 p.2) : ClP os' (ps ++ qs) := fun p hp => by
  rcases List.mem_append.1 hp with hp | hp
  · obtain ⟨o, ho, hc⟩ := h p hp; exact ⟨o, hsub o ho, hc⟩
  · exact hq p hp
def fName (b : Nat) : Value := .func (.func 52) #[] #[fptr b]
def fCh1 (b : Nat) : Value := .func (.func 46) #[] #[fptr b]
def fCh2 (b : Nat) : Value := .func (.func 48) #[] #[fptr b]
def fCh3 (b : Nat) : Value := .func (.func 49) #[] #[fptr b]
theorem CloO.name (b : Nat) (s : Str) : CloO (.box b [.c (str s)]) (fName b) (nameE s) := fun l1 l2 => ⟨_, [fptr b], rfl, gofn52, clo_name⟩
theorem CloO.ch1 (b : Nat) {s : SetT} (fr : Bool) (hw : s.wf) : CloO (.box b (s.cs fr)) (fCh1 b) s.ex.err := fun l1 l2 => ⟨_, [fptr b], rfl, gofn46, clo_ch1 hw⟩
theorem CloO.ch2 (b : Nat) {s : EmT} (fr : Bool) (hw : s.wf) : CloO (.box b (s.cs fr)) (fCh2 b) s.wh.err := fun l1 l2 => ⟨_, [fptr b], rfl, gofn48, clo_ch2 hw⟩
theorem CloO.ch3 (b : Nat) {s : EmT} (fr : Bool) (hw : s.wf) : CloO (.box b (s.cs fr)) (fCh3 b) s.ar.err := fun l1 l2 => ⟨_, [fptr b], rfl, gofn49, clo_ch3 hw⟩
theorem Reown.gath (b a c n : Own) (os : List Own) : Reown [b, a, c, .grp os, n] [a, c, .grp (b :: n :: os)] :=
  ⟨fun x => by simp only [fps_cons, fps_nil, fp_grp, List.count_append, List.count_nil]; omega, fun w A h => by
    simp only [List.forall_mem_cons, ok_grp, List.not_mem_nil, false_implies, implies_true, and_true] at h ⊢
    exact ⟨h.2.1, h.2.2.1, h.1, h.2.2.2.2, h.2.2.2.1⟩⟩
theorem es_snocS {l : List SetT} {j : Nat} (h : j < l.length) : (l.take (j + 1)).flatMap SetT.es = (l.take j).flatMap SetT.es ++ [nameE l[j].key, l[j].ex.err] := by
  rw [List.take_succ_eq_append_getElem h, List.flatMap_append]; simp [SetT.es]
theorem es_snocE {l : List EmT} {j : Nat} (h : j < l.length) : (l.take (j + 1)).flatMap EmT.es = (l.take j).flatMap EmT.es ++ [l[j].wh.err, nameE l[j].nm, l[j].ar.err] := by
  rw [List.take_succ_eq_append_getElem h, List.flatMap_append]; simp [EmT.es]
theorem redname_ok (s : Str) : AC Tryz.prog 37 [] [.c (str s)] (RetR fun x o => ∃ b, x = .c (fName b) ∧ o = [.box b [.c (str s)]]) := by
  refine AC.of_J Tryz.func37 rfl Tryz.ntmps37 rfl fun w0 A0 => ?_
  exact Zs (JL.box_one (.tmp rfl) rfl rfl fun b1 => Zq rfl (QW.assign .const) (Zn (Zs (Zq rfl (QW.mkFunc .nil (.cons (.tmp rfl) .nil)) (Zq rfl (QW.assign (.tmp rfl)) (Zn (J.ret (Zr [.p] (RetEv.one rfl (REv.tmp rfl lr)) rfl ⟨_, rfl, b1, rfl, rfl⟩))))))))
theorem hcheck_ok {fr : Bool} {h : HdT} (hw : h.wf) : Fn Tryz.prog 30 [.agg (h.cs fr)] (.c (.int .i64 h.err)) := by
  obtain ⟨on, sets, ems⟩ := h
  obtain ⟨-, hsl, hsw, hel, hew⟩ := hw
  simp only at hsl hsw hel hew
  refine AC.of_J Tryz.func30 rfl Tryz.ntmps30 rfl fun w0 A0 => ?_
  refine Zs (JL.box_agg (.tmp rfl) rfl fun b1 => Zq rfl (QW.assign .const) (Zn (J.seq (Zs (Zq rfl (QW.field_ptr fo76_1 (.tmp rfl) rfl) (Zq rfl (QW.load_box1 0 ty73 (.tmp rfl) rfl rfl) (Zq rfl (by first | exact QW.len_slE sl73 (.tmp rfl) wl | exact QW.len_slE sl73 (.tmp rfl) (EX.css_length _ _) | exact QW.len_slE sl73 (.tmp rfl) (SetT.css_length _ _) | exact QW.len_slE sl73 (.tmp rfl) (EmT.css_length _ _) | exact QW.len_slE sl73 (.tmp rfl) (HdT.css_length _ _) | exact QW.len_sl sl73 (.tmp rfl) | exact QW.len_nil sl73 (.tmp rfl)) ?_)))))))
  refine Zq rfl (QW.field_ptr fo76_2 (.tmp rfl) rfl) (Zq rfl (QW.load_box1 0 ty74 (.tmp rfl) rfl rfl) (Zq rfl (by first | exact QW.len_slE sl74 (.tmp rfl) wl | exact QW.len_slE sl74 (.tmp rfl) (EX.css_length _ _) | exact QW.len_slE sl74 (.tmp rfl) (SetT.css_length _ _) | exact QW.len_slE sl74 (.tmp rfl) (EmT.css_length _ _) | exact QW.len_slE sl74 (.tmp rfl) (HdT.css_length _ _) | exact QW.len_sl sl74 (.tmp rfl) | exact QW.len_nil sl74 (.tmp rfl)) ?_))
  refine Zq rfl (QW.max2 (.tmp rfl) (.tmp rfl)) (Zq rfl (QW.gtr (.tmp rfl) .const) (Zn ?_))
  refine J.cond (.tmp rfl) (fun c1 => ?_) (fun c1 => ?_)
  · skip
    have hbad : 8 < sets.length ∨ 8 < ems.length := by (simp [SetT.css_length, EmT.css_length] at c1; omega)
    exact Zs (Zq rfl (QW.assign .const) (Zn (J.ret (thenQ.r (Zr [.k] (RetEv.one rfl (REv.tmp rfl lr)) rfl ⟨by rw [HdT.err, if_pos hbad], rfl⟩)))))
  have hok : sets.length ≤ 8 ∧ ems.length ≤ 8 := by (simp [SetT.css_length, EmT.css_length] at c1; omega)
  refine Zk (Zs (Zq rfl (QW.field_ptr fo76_0 (.tmp rfl) rfl) (Zq rfl (QW.load_box1 0 ty9 (.tmp rfl) rfl rfl) (JL.callRF [] gofn37 rfl Lent.nil (fun _ => (.cons (.tmp rfl) .nil)) (redname_ok _) (.inl rfl) fun x18 o18 h18 => ?_))))
  obtain ⟨b18, rfl, rfl⟩ := h18
  refine JL.buildOwn (idx := [0]) (e := eFn) (xs := [[.c (fName b18)]]) sl111 el94 z94 rfl (.cons (.tmp rfl) .nil) rfl rfl rfl rfl rfl rfl rfl rfl rfl fun v19 => Zq rfl (QW.assign (.tmp rfl)) (Zn (J.seq (Zs (Zq rfl (QW.field_ptr fo76_1 (.tmp rfl) rfl) (Zq rfl (QW.load_box1 1 ty73 (.tmp rfl) rfl rfl) (Zq rfl (by first | exact QW.len_slE sl73 (.tmp rfl) wl | exact QW.len_slE sl73 (.tmp rfl) (EX.css_length _ _) | exact QW.len_slE sl73 (.tmp rfl) (SetT.css_length _ _) | exact QW.len_slE sl73 (.tmp rfl) (EmT.css_length _ _) | exact QW.len_slE sl73 (.tmp rfl) (HdT.css_length _ _) | exact QW.len_sl sl73 (.tmp rfl) | exact QW.len_nil sl73 (.tmp rfl)) ?_))))))
  refine Zq rfl (QW.move .const) (Zn (J.block (J.reown (Reown.cons (Reown.cons (Reown.shut [_] []))) (J.loopK (ι := Nat × Value × List (Value × Int) × List Own) [1, 2, 21, 22] (fun ⟨j, v, ps, os⟩ => [(23, .c (.int .i64 (j : Int))), (3, .c v)]) (fun ⟨j, v, ps, os⟩ oo => List.set (List.set oo 0 (.arr v eFn ((ps.map (·.1)).map fun v => [AV.c v]))) 2 (.grp os)) (fun ⟨j, v, ps, os⟩ => j ≤ sets.length ∧ ps.length = 1 + 2 * j ∧ ps.map (·.2) = nameE on :: (sets.take j).flatMap SetT.es ∧ ClP os ps) (fun ⟨j, v, ps, os⟩ => sets.length - j) ⟨0, v19, [(fName b18, nameE on)], [.box b18 [.c (str on)]]⟩ (⟨Nat.zero_le _, rfl, by simp, fun p hp => ⟨_, List.mem_singleton.2 rfl, by rw [List.mem_singleton.1 hp]; exact CloO.name _ _⟩⟩) (Wk.re (.cons rfl lr (.cons rfl lr (.cons rfl lr (.cons rfl lr (.cons rfl lr (.cons rfl lr .nil)))))) (Reown.refl _) (fun _ h => by first | exact h | simp [h])) ?_))))
  intro ⟨j, v, ps, os⟩ ⟨hj, hpl, hpe, hcl⟩
  refine J.conv (by (try simp only [nl, stepsO, valO, nthO, curO, mrg, AV.cellsOf, splice_zero, splice_succ, Nat.reduceAdd]); rfl) ?_
  refine Zs (Zq rfl (QW.lss (.tmp rfl) (.tmp rfl)) (Zn (J.seq ?_)))
  refine J.cond (.tmp rfl) (fun c2 => ?_) (fun c2 => ?_)
  · skip
    have hlt : j < sets.length := by simpa [SetT.css_length] using c2
    refine Zk (J.seq (J.block (Zs (Zq rfl (QW.index_sl sl73 ty82 rfl (.tmp rfl) (.tmp rfl) (by first | rfl | omega | (simp; done)) (by exact SetT.css_getE _ hlt)) ?_))))
    refine Zq rfl (by first | exact QW.load_ref ty82 (.tmp rfl) rfl rfl | exact QW.load_ref ty82 (.tmp rfl) (take_at0 (SetT.cs_length _ _) rfl) (SetT.cs_length _ _)) ?_
    refine JL.alloc z82 rfl rfl fun b5 => ?_
    first | refine JL.store_boxF 0 ty82 (.tmp rfl) rfl (.tmp rfl) (by first | rfl | assumption) rfl rfl rfl ?_ | refine JL.store_boxF 0 ty82 (.tmp rfl) rfl (.tmp rfl) (by first | rfl | assumption) rfl (SetT.cs_length _ _) rfl ?_ | refine JL.store_boxF 0 ty82 (.tmp rfl) rfl (.tmp rfl) (by first | rfl | assumption) (SetT.cs_length _ _) rfl rfl ?_ | refine JL.store_boxF 0 ty82 (.tmp rfl) rfl (.tmp rfl) (by first | rfl | assumption) (SetT.cs_length _ _) (SetT.cs_length _ _) rfl ?_ | refine JL.store_box 0 ty82 (.tmp rfl) rfl (.tmp rfl) (by first | rfl | assumption) rfl rfl rfl rfl ?_ | refine JL.store_box 0 ty82 (.tmp rfl) rfl (.tmp rfl) (by first | rfl | assumption) (SetT.cs_length _ _) rfl rfl rfl ?_
    refine Zn (J.region_lit (Zq rfl (QW.move (.tmp rfl)) (Zq rfl (QW.field_ptr fo82_0 (.tmp rfl) rfl) (Zq rfl (QW.load_box1 0 ty9 (.tmp rfl) rfl rfl) (JL.callRF [] gofn37 rfl Lent.nil (fun _ => (.cons (.tmp rfl) .nil)) (redname_ok _) (.inl rfl) fun x30 o30 h30 => ?_)))))
    obtain ⟨b30, rfl, rfl⟩ := h30
    refine Zq rfl (QW.mkFunc .nil (.cons (.tmp rfl) .nil)) (Zq rfl (QW.buildSlice (idx := [0, 1]) (xs := [[.c (fName b30)], [.c (fCh1 b5)]]) sl111 el94 z94 rfl (.cons (.tmp rfl) (.cons (.tmp rfl) .nil)) rfl rfl rfl rfl rfl rfl rfl rfl rfl) (JL.append 1 sl111 el94 rfl (.tmp rfl) rfl (srcA_sl sl111 (.tmp rfl)) (by simp; show _ * 8 ≤ _; unfold reach; omega) rfl fun v33 => ?_))
    refine Zq rfl (QW.assign (.tmp rfl)) (JL.nil (blkQ.n (thenQ.n ?_)))
    rw [show ((ps.map (·.1)).map fun v => [AV.c v]) ++ [[AV.c (fName b30)], [AV.c (fCh1 b5)]] = ((ps ++ [(fName b30, nameE sets[j].key), (fCh1 b5, sets[j].ex.err)]).map (·.1)).map fun v => [AV.c v] by simp]
    refine J.reown (Reown.gath _ _ _ _ _) (J.region_lit (Zq rfl (QW.add (.tmp rfl) .const (by first | exact w64n (by first | rfl | omega | (simp; done)) (by omega) | exact w64 (by omega) | rfl)) ?_))
    refine Zq rfl (QW.move (.tmp rfl)) (Zn ?_)
    exact ⟨⟨j + 1, v33, ps ++ [(fName b30, nameE sets[j].key), (fCh1 b5, sets[j].ex.err)], .box b5 (sets[j].cs fr) :: .box b30 [.c (str sets[j].key)] :: os⟩, ⟨hlt, by simp; omega, by rw [List.map_append, hpe, es_snocS hlt]; simp, hcl.add (fun o ho => by simp [ho]) (fun p hp => by simp at hp; rcases hp with rfl | rfl; exact ⟨_, by simp, CloO.name _ _⟩; exact ⟨_, by simp, CloO.ch1 _ fr (hsw _ (List.getElem_mem hlt))⟩)⟩, by show sets.length - (j + 1) < sets.length - j; omega, Wk.re (.cons rfl lr (.cons rfl lr (.cons rfl lr (.cons rfl lr (.cons rfl lr (.cons rfl lr .nil)))))) (Reown.refl _) (fun _ h => by first | exact h | simp [h])⟩
  obtain rfl : j = sets.length := by (simp [SetT.css_length] at c2; omega)
  refine J.exit (thenQ.x (thenQ.x (blkQ.hit (thenQ.n (J.seq (Zs (Zq rfl (QW.field_ptr fo76_2 (.tmp rfl) rfl) (Zq rfl (QW.load_box1 1 ty74 (.tmp rfl) rfl rfl) (Zq rfl (by first | exact QW.len_slE sl74 (.tmp rfl) wl | exact QW.len_slE sl74 (.tmp rfl) (EX.css_length _ _) | exact QW.len_slE sl74 (.tmp rfl) (SetT.css_length _ _) | exact QW.len_slE sl74 (.tmp rfl) (EmT.css_length _ _) | exact QW.len_slE sl74 (.tmp rfl) (HdT.css_length _ _) | exact QW.len_sl sl74 (.tmp rfl) | exact QW.len_nil sl74 (.tmp rfl)) ?_)))))))))
  refine Zq rfl (QW.move .const) (Zn (J.block (J.loopK (ι := Nat × Value × List (Value × Int) × List Own) [2, 36, 37] (fun ⟨i, v, ps, os⟩ => [(38, .c (.int .i64 (i : Int))), (3, .c v)]) (fun ⟨i, v, ps, os⟩ oo => List.set (List.set oo 0 (.arr v eFn ((ps.map (·.1)).map fun v => [AV.c v]))) 2 (.grp os)) (fun ⟨i, v, ps, os⟩ => i ≤ ems.length ∧ ps.length = 1 + 2 * sets.length + 3 * i ∧ ps.map (·.2) = nameE on :: (sets.flatMap SetT.es ++ (ems.take i).flatMap EmT.es) ∧ ClP os ps) (fun ⟨i, v, ps, os⟩ => ems.length - i) ⟨0, v, ps, os⟩ (⟨Nat.zero_le _, by omega, by rw [hpe, List.take_length]; simp, hcl⟩) (Wk.re (.cons rfl lr (.cons rfl lr (.cons rfl lr (.cons rfl lr (.cons rfl lr .nil))))) (Reown.refl _) (fun _ h => by first | exact h | simp [h])) ?_)))
  intro ⟨i, v, ps, os⟩ ⟨hi, hpl, hpe, hcl⟩
  refine J.conv (by (try simp only [nl, stepsO, valO, nthO, curO, mrg, AV.cellsOf, splice_zero, splice_succ, Nat.reduceAdd]); rfl) ?_
  refine Zs (Zq rfl (QW.lss (.tmp rfl) (.tmp rfl)) (Zn (J.seq ?_)))
  refine J.cond (.tmp rfl) (fun c3 => ?_) (fun c3 => ?_)
  · skip
    have hlt : i < ems.length := by simpa [EmT.css_length] using c3
    refine Zk (J.seq (J.block (Zs (Zq rfl (QW.index_sl sl74 ty86 rfl (.tmp rfl) (.tmp rfl) (by first | rfl | omega | (simp; done)) (by exact EmT.css_getE _ hlt)) ?_))))
    refine Zq rfl (by first | exact QW.load_ref ty86 (.tmp rfl) rfl rfl | exact QW.load_ref ty86 (.tmp rfl) (take_at0 (EmT.cs_length _ _) rfl) (EmT.cs_length _ _)) ?_
    refine JL.alloc z86 rfl rfl fun b7 => ?_
    first | refine JL.store_boxF 0 ty86 (.tmp rfl) rfl (.tmp rfl) (by first | rfl | assumption) rfl rfl rfl ?_ | refine JL.store_boxF 0 ty86 (.tmp rfl) rfl (.tmp rfl) (by first | rfl | assumption) rfl (EmT.cs_length _ _) rfl ?_ | refine JL.store_boxF 0 ty86 (.tmp rfl) rfl (.tmp rfl) (by first | rfl | assumption) (EmT.cs_length _ _) rfl rfl ?_ | refine JL.store_boxF 0 ty86 (.tmp rfl) rfl (.tmp rfl) (by first | rfl | assumption) (EmT.cs_length _ _) (EmT.cs_length _ _) rfl ?_ | refine JL.store_box 0 ty86 (.tmp rfl) rfl (.tmp rfl) (by first | rfl | assumption) rfl rfl rfl rfl ?_ | refine JL.store_box 0 ty86 (.tmp rfl) rfl (.tmp rfl) (by first | rfl | assumption) (EmT.cs_length _ _) rfl rfl rfl ?_
    refine Zn (J.region_lit (Zq rfl (QW.move (.tmp rfl)) (Zq rfl (QW.mkFunc .nil (.cons (.tmp rfl) .nil)) (Zq rfl (QW.field_ptr fo86_1 (.tmp rfl) rfl) (Zq rfl (QW.load_box1 0 ty9 (.tmp rfl) rfl EmT.at4) (JL.callRF [] gofn37 rfl Lent.nil (fun _ => (.cons (.tmp rfl) .nil)) (redname_ok _) (.inl rfl) fun x46 o46 h46 => ?_))))))
    obtain ⟨b46, rfl, rfl⟩ := h46
    refine Zq rfl (QW.mkFunc .nil (.cons (.tmp rfl) .nil)) (Zq rfl (QW.buildSlice (idx := [0, 1, 2]) (xs := [[.c (fCh2 b7)], [.c (fName b46)], [.c (fCh3 b7)]]) sl111 el94 z94 rfl (.cons (.tmp rfl) (.cons (.tmp rfl) (.cons (.tmp rfl) .nil))) rfl rfl rfl rfl rfl rfl rfl rfl rfl) (JL.append 1 sl111 el94 rfl (.tmp rfl) rfl (srcA_sl sl111 (.tmp rfl)) (by simp; show _ * 8 ≤ _; unfold reach; omega) rfl fun v49 => ?_))
    refine Zq rfl (QW.assign (.tmp rfl)) (JL.nil (blkQ.n (thenQ.n ?_)))
    rw [show ((ps.map (·.1)).map fun v => [AV.c v]) ++ [[AV.c (fCh2 b7)], [AV.c (fName b46)], [AV.c (fCh3 b7)]] = ((ps ++ [(fCh2 b7, ems[i].wh.err), (fName b46, nameE ems[i].nm), (fCh3 b7, ems[i].ar.err)]).map (·.1)).map fun v => [AV.c v] by simp]
    refine J.reown (Reown.gath _ _ _ _ _) (J.region_lit (Zq rfl (QW.add (.tmp rfl) .const (by first | exact w64n (by first | rfl | omega | (simp; done)) (by omega) | exact w64 (by omega) | rfl)) ?_))
    refine Zq rfl (QW.move (.tmp rfl)) (Zn ?_)
    exact ⟨⟨i + 1, v49, ps ++ [(fCh2 b7, ems[i].wh.err), (fName b46, nameE ems[i].nm), (fCh3 b7, ems[i].ar.err)], .box b7 (ems[i].cs fr) :: .box b46 [.c (str ems[i].nm)] :: os⟩, ⟨hlt, by simp; omega, by rw [List.map_append, hpe, es_snocE hlt]; simp, hcl.add (fun o ho => by simp [ho]) (fun p hp => by simp at hp; rcases hp with rfl | rfl | rfl; exact ⟨_, by simp, CloO.ch2 _ fr (hew _ (List.getElem_mem hlt))⟩; exact ⟨_, by simp, CloO.name _ _⟩; exact ⟨_, by simp, CloO.ch3 _ fr (hew _ (List.getElem_mem hlt))⟩)⟩, by show ems.length - (i + 1) < ems.length - i; omega, Wk.re (.cons rfl lr (.cons rfl lr (.cons rfl lr (.cons rfl lr (.cons rfl lr .nil))))) (Reown.refl _) (fun _ h => by first | exact h | simp [h])⟩
  obtain rfl : i = ems.length := by (simp [EmT.css_length] at c3; omega)
  refine J.exit (thenQ.x (thenQ.x (blkQ.hit (thenQ.n (J.seq (J.closeArr 0 rfl (by simp; show _ * 8 ≤ _; unfold reach; omega) rfl (fun _ h => by cases h) ?_))))))
  refine J.region_lit (Zq rfl (QW.move (.tmp rfl)) (JL.callRF [.k, .p] gofn34 rfl Lent.nil (fun _ => (.cons (Ev.le (.tmp rfl) (.fact (by simp) (.refl _))) .nil)) (checks_ok (fr := true) (cl := false) (fs := ps.map (·.1)) (es := ps.map (·.2)) (by simp) hcl.clos (by simp; unfold reach; omega)) (.inl rfl) fun x52 o52 h52 => ?_))
  obtain ⟨rfl, rfl⟩ := h52
  exact Zq rfl (QW.assign (.tmp rfl)) (Zn (J.ret (Zr [.k, .k] (RetEv.one rfl (REv.tmp rfl lr)) rfl ⟨by rw [hpe, List.take_length, HdT.err, if_neg (by show ¬ (8 < sets.length ∨ 8 < ems.length); omega)]; rfl, rfl⟩)))
end Go.Proofs.YtmccnmahegbmpaaGreat.J

/- Walks: where an event's handler is; may a program be? -/
namespace Go.Proofs.YtmccnmahegbmpaaGreat.J
open Go Go.RowKit
set_option maxRecDepth 10000
set_option maxHeartbeats 4000000
theorem hIdx_drop {l : List HdT} {j : Nat} (h : j < l.length) (s : Str) (i : Int) : hIdx (l.drop j) s i = if l[j].on = s then i else hIdx (l.drop (j + 1)) s (i + 1) := by
  rw [List.drop_eq_getElem_cons h, hIdx]
theorem twice_snoc (p : PgT) : ∀ (l : List HdT) (h : HdT) (i : Int), twiceB p (l ++ [h]) i = (twiceB p l i || (p.at h.on != i + l.length))
  | [], h, i => by simp [twiceB]
  | x :: r, h, i => by
    rw [List.cons_append, twiceB, twiceB, twice_snoc p r h (i + 1), Bool.or_assoc, List.length_cons]
    congr 3; push_cast; omega
theorem twice_take (p : PgT) {l : List HdT} {j : Nat} (h : j < l.length) : twiceB p (l.take (j + 1)) 0 = (twiceB p (l.take j) 0 || (p.at l[j].on != (j : Int))) := by
  rw [List.take_succ_eq_append_getElem h, twice_snoc, List.length_take, Nat.min_eq_left (by omega)]; simp
theorem fst_take {l : List HdT} {j : Nat} (h : j < l.length) (h0 : fstE ((l.take j).map HdT.err) = 0) (he : ¬ l[j].err = 0) : fstE (l.map HdT.err) = l[j].err := by
  have hl : l = l.take j ++ (l[j] :: l.drop (j + 1)) := by rw [← List.drop_eq_getElem_cons h, List.take_append_drop]
  conv => lhs; rw [hl]
  rw [List.map_append, fstE_app, if_neg (fun h => h h0), List.map_cons]
  exact if_pos he
theorem perr {k : Int} {bt : Nat} {t : Str} {ks : List Str} {is : List V} {hs : List HdT} : PgT.err ⟨.mk k bt t ks is, hs⟩ = if (V.mk k bt t ks is).err ≠ 0 then (V.mk k bt t ks is).err else if k ≠ 5 then 81 else if 16 < hs.length then 3 else if fstE (hs.map HdT.err) ≠ 0 then fstE (hs.map HdT.err) else if twiceB ⟨.mk k bt t ks is, hs⟩ hs 0 then 6 else 0 := rfl
theorem fst_snoc {l : List HdT} {j : Nat} (h : j < l.length) (h0 : fstE ((l.take j).map HdT.err) = 0) (he : l[j].err = 0) : fstE ((l.take (j + 1)).map HdT.err) = 0 := by
  rw [List.take_succ_eq_append_getElem h, List.map_append, fstE_app, if_neg (fun h => h h0)]
  simp [fstE, he]
theorem hdl1_ok {h : HdT} {fr : Bool} {b : Nat} {s : Str} : AC Tryz.prog 51 [.box b [.c (str s)]] [.agg (h.cs fr), .c (fptr b)] (RetR fun x o => x = .c (.bool (decide (h.on = s))) ∧ o = [.box b [.c (str s)]]) := by
  refine AC.of_J Tryz.func51 rfl Tryz.ntmps51 rfl fun w0 A0 => ?_
  refine Zs (JL.box_agg (.tmp rfl) rfl fun b2 => Zq rfl (QW.assign .const) (Zn (Zs (Zq rfl (QW.field_ptr fo76_0 (.tmp rfl) rfl) (Zq rfl (QW.load_box1 0 ty9 (.tmp rfl) rfl rfl) (Zq rfl (QW.load_box1 1 ty9 (.tmp rfl) rfl rfl) (Zq rfl (QW.eql_s (.tmp rfl) (.tmp rfl)) (Zq rfl (QW.assign (.tmp rfl)) ?_))))))))
  exact Zn (J.ret (Zr [.k, .p] (RetEv.one rfl (REv.tmp rfl lr)) rfl ⟨_, rfl, by congr 2; rw [Bool.eq_iff_iff]; simp, rfl⟩))
theorem idxH_ok {fr c : Bool} {l : List HdT} {b : Nat} {s : Str} (hr : l.length * 64 ≤ reach) :
    AC Tryz.prog 50 [.box b [.c (str s)]] [.sl fr c eHd (HdT.css fr l), .c (.func (.func 51) #[] #[fptr b])] (RetR fun x o => x = .c (.int .i64 (hIdx l s 0)) ∧ o = [.box b [.c (str s)]]) := by
  have hlen : l.length ≤ 9223372036854775805 := by unfold reach at hr; omega
  refine AC.of_J Tryz.func50 rfl Tryz.ntmps50 rfl fun w0 A0 => ?_
  refine Zs (Zq rfl (QW.assign .const) (Zn (J.seq (Zs (Zq rfl (QW.move (.tmp rfl)) (Zq rfl (by first | exact QW.len_slE sl36 (.tmp rfl) wl | exact QW.len_slE sl36 (.tmp rfl) (EX.css_length _ _) | exact QW.len_slE sl36 (.tmp rfl) (SetT.css_length _ _) | exact QW.len_slE sl36 (.tmp rfl) (EmT.css_length _ _) | exact QW.len_slE sl36 (.tmp rfl) (HdT.css_length _ _) | exact QW.len_sl sl36 (.tmp rfl) | exact QW.len_nil sl36 (.tmp rfl)) ?_))))))
  refine Zq rfl (QW.move .const) (Zn (J.block (J.loopK (ι := Nat) [0, 1, 7] (fun j => [(8, .c (.int .i64 (j : Int)))]) (fun _ oo => oo) (fun j => j ≤ l.length ∧ hIdx l s 0 = hIdx (l.drop j) s (j : Int)) (fun j => l.length - j) 0 (⟨Nat.zero_le _, rfl⟩) (Wk.re (.cons rfl lr (.cons rfl lr (.cons rfl lr (.cons rfl lr .nil)))) (Reown.refl _) (fun _ h => by first | exact h | simp [h])) ?_)))
  intro j ⟨hj, hi⟩
  refine J.conv (by (try simp only [nl, stepsO, valO, nthO, curO, mrg, AV.cellsOf, splice_zero, splice_succ, Nat.reduceAdd]); rfl) ?_
  refine Zs (Zq rfl (QW.lss (.tmp rfl) (.tmp rfl)) (Zn (J.seq ?_)))
  refine J.cond (.tmp rfl) (fun c1 => ?_) (fun c1 => ?_)
  · skip
    have hlt : j < l.length := by simpa [HdT.css_length] using c1
    refine Zk (J.seq (J.block (Zs (Zq rfl (QW.move (.tmp rfl)) (Zq rfl (QW.assign (.tmp rfl)) (Zn (Zs (Zq rfl (QW.move (.tmp rfl)) (Zq rfl (QW.move (.tmp rfl)) ?_)))))))))
    refine Zq rfl (QW.move (.tmp rfl)) (Zq rfl (QW.index_sl sl36 ty76 rfl (.tmp rfl) (.tmp rfl) (by first | rfl | omega | (simp; done)) (by exact HdT.css_getE _ hlt)) ?_)
    refine Zq rfl (by first | exact QW.load_ref ty76 (.tmp rfl) rfl rfl | exact QW.load_ref ty76 (.tmp rfl) (take_at0 rfl rfl) rfl) ?_
    refine JL.callR [.p] gofn51 rfl (.tmp rfl) Lent.nil (fun _ => (.cons (.tmp rfl) .nil)) rfl (hdl1_ok) (.inl rfl) fun x16 o16 h16 => ?_
    obtain ⟨rfl, rfl⟩ := h16
    refine Zn ?_
    refine J.cond (.tmp rfl) (fun c2 => ?_) (fun c2 => ?_)
    · skip
      have he : l[j].on = s := by simpa using c2
      exact Zs (Zq rfl (QW.move (.tmp rfl)) (Zq rfl (QW.assign (.tmp rfl)) (Zn (J.ret (blkQ.r (thenQ.r (thenQ.r (blkQ.r (thenQ.r (Zr [.p] (RetEv.one rfl (REv.tmp rfl lr)) rfl ⟨_, rfl, by rw [hi, hIdx_drop hlt, if_pos he], rfl⟩))))))))))
    have hne : ¬ l[j].on = s := by simpa using c2
    refine J.skip (blkQ.n (thenQ.n (J.region_lit (Zq rfl (QW.add (.tmp rfl) .const (by first | exact w64n (by first | rfl | omega | (simp; done)) (by omega) | exact w64 (by omega) | rfl)) ?_))))
    refine Zq rfl (QW.move (.tmp rfl)) (Zn ?_)
    exact ⟨j + 1, ⟨hlt, by rw [hi, hIdx_drop hlt, if_neg hne]; simp⟩, by omega, Wk.re (.cons rfl lr (.cons rfl lr (.cons rfl lr (.cons rfl lr .nil)))) (Reown.refl _) (fun _ h => by first | exact h | simp [h])⟩
  have hge : l.length ≤ j := by simpa [HdT.css_length] using c1
  exact J.exit (thenQ.x (thenQ.x (blkQ.hit (thenQ.n (Zs (Zq rfl (QW.assign .const) (Zn (J.ret (Zr [.p] (RetEv.one rfl (REv.tmp rfl lr)) rfl ⟨_, rfl, by rw [hi, List.drop_of_length_le hge]; rfl, rfl⟩)))))))))
theorem handles_ok {fr : Bool} {p : PgT} (hw : p.wf) (s : Str) : Fn Tryz.prog 31 [.agg (p.cs fr), .c (str s)] (.c (.int .i64 (p.at s))) := by
  obtain ⟨⟨k, bt, t, ks, is⟩, hs⟩ := p
  refine AC.of_J Tryz.func31 rfl Tryz.ntmps31 rfl fun w0 A0 => ?_
  refine Zs (JL.box_agg (.tmp rfl) rfl fun b2 => JL.box_one (.tmp rfl) rfl rfl fun b3 => Zq rfl (QW.assign .const) (Zn (Zs (Zq rfl (QW.field_ptr fo38_1 (.tmp rfl) rfl) (Zq rfl (QW.load_box1 1 ty36 (.tmp rfl) rfl rfl) (Zq rfl (QW.mkFunc .nil (.cons (.tmp rfl) .nil)) (JL.callRF [.p] gofn50 rfl Lent.nil (fun _ => (.cons (.tmp rfl) (.cons (.tmp rfl) .nil))) (idxH_ok hw.hlen) (.inl rfl) fun x8 o8 h8 => ?_)))))))
  obtain ⟨rfl, rfl⟩ := h8
  exact Zq rfl (QW.assign (.tmp rfl)) (Zn (J.ret (Zr [.k, .k] (RetEv.one rfl (REv.tmp rfl lr)) rfl ⟨rfl, rfl⟩)))
theorem pcheck_ok {fr : Bool} {p : PgT} (hw : p.wf) : Fn Tryz.prog 20 [.agg (p.cs fr)] (.c (.int .i64 p.err)) := by
  have hp := hw
  obtain ⟨⟨k, bt, t, ks, is⟩, hs⟩ := p
  obtain ⟨hiw, hlen, hhw⟩ := hw
  simp only at hiw hlen hhw
  have hlen2 : hs.length ≤ 9223372036854775805 := by unfold reach at hlen; omega
  refine AC.of_J Tryz.func20 rfl Tryz.ntmps20 rfl fun w0 A0 => ?_
  refine Zs (JL.box_agg (.tmp rfl) rfl fun b1 => Zq rfl (QW.assign .const) (Zn (J.seq (Zs (Zq rfl (QW.field_ptr fo38_0 (.tmp rfl) rfl) (Zq rfl (by first | exact QW.load_box 0 ty26 (.tmp rfl) rfl rfl rfl | exact QW.load_box 0 ty26 (.tmp rfl) rfl (take_at vl rfl) vl) ?_))))))
  refine Zq rfl (QW.call gofn16 (.cons (.tmp rfl) .nil) (check_ok (v := .mk k bt t ks is) Vc.self hiw)) (Zq rfl (QW.assign (.tmp rfl)) (Zn (Zs (Zq rfl (QW.move (.tmp rfl)) (Zq rfl (QW.neq (.tmp rfl) .const) (Zn ?_))))))
  refine J.cond (.tmp rfl) (fun c1 => ?_) (fun c1 => ?_)
  · skip
    have hbad : ¬ (V.mk k bt t ks is).err = 0 := by simpa using c1
    exact Zs (Zq rfl (QW.move (.tmp rfl)) (Zq rfl (QW.assign (.tmp rfl)) (Zn (J.ret (thenQ.r (Zr [.k] (RetEv.one rfl (REv.tmp rfl lr)) rfl ⟨by rw [perr, if_pos hbad], rfl⟩))))))
  have hi0 : (V.mk k bt t ks is).err = 0 := by simpa using c1
  refine Zk (J.seq (J.block (Zs (Zq rfl (QW.field_ptr fo38_0 (.tmp rfl) rfl) (Zq rfl (QW.field_ptr fo26_0 (.tmp rfl) rfl) (Zq rfl (QW.load_box1 0 ty3 (.tmp rfl) rfl rfl) (Zq rfl (QW.neq (.tmp rfl) .const) (Zq rfl (QW.assign (.tmp rfl)) (Zn ?_)))))))))
  refine J.cond (.tmp rfl) (fun c2 => ?_) (fun c2 => ?_)
  · skip
    have hk : ¬ k = 5 := by simpa using c2
    exact Zs (Zq rfl (QW.assign .const) (Zn (J.ret (blkQ.r (thenQ.r (Zr [.k] (RetEv.one rfl (REv.tmp rfl lr)) rfl ⟨by rw [perr, if_neg (fun h => h hi0), if_pos hk], rfl⟩))))))
  have hk : k = 5 := by simpa using c2
  refine Zs (Zq rfl (QW.field_ptr fo38_1 (.tmp rfl) rfl) (Zq rfl (QW.load_box1 0 ty36 (.tmp rfl) rfl rfl) (Zq rfl (by first | exact QW.len_slE sl36 (.tmp rfl) wl | exact QW.len_slE sl36 (.tmp rfl) (EX.css_length _ _) | exact QW.len_slE sl36 (.tmp rfl) (SetT.css_length _ _) | exact QW.len_slE sl36 (.tmp rfl) (EmT.css_length _ _) | exact QW.len_slE sl36 (.tmp rfl) (HdT.css_length _ _) | exact QW.len_sl sl36 (.tmp rfl) | exact QW.len_nil sl36 (.tmp rfl)) ?_)))
  refine Zq rfl (QW.gtr (.tmp rfl) .const) (Zq rfl (QW.assign (.tmp rfl)) (Zn ?_))
  refine J.cond (.tmp rfl) (fun c3 => ?_) (fun c3 => ?_)
  · skip
    have h16 : 16 < hs.length := by (simp [HdT.css_length] at c3; omega)
    exact Zs (Zq rfl (QW.assign .const) (Zn (J.ret (blkQ.r (thenQ.r (Zr [.k] (RetEv.one rfl (REv.tmp rfl lr)) rfl ⟨by rw [perr, if_neg (fun h => h hi0), if_neg (fun h => h hk), if_pos h16], rfl⟩))))))
  have h16 : ¬ 16 < hs.length := by (simp [HdT.css_length] at c3; omega)
  refine J.skip (blkQ.n (thenQ.n (Zs (Zq rfl (QW.assign .const) (Zn (J.seq (Zs (Zq rfl (QW.field_ptr fo38_1 (.tmp rfl) rfl) (Zq rfl (QW.load_box1 0 ty36 (.tmp rfl) rfl rfl) ?_)))))))))
  refine Zq rfl (by first | exact QW.len_slE sl36 (.tmp rfl) wl | exact QW.len_slE sl36 (.tmp rfl) (EX.css_length _ _) | exact QW.len_slE sl36 (.tmp rfl) (SetT.css_length _ _) | exact QW.len_slE sl36 (.tmp rfl) (EmT.css_length _ _) | exact QW.len_slE sl36 (.tmp rfl) (HdT.css_length _ _) | exact QW.len_sl sl36 (.tmp rfl) | exact QW.len_nil sl36 (.tmp rfl)) ?_
  refine Zq rfl (QW.move .const) (Zn (J.block (J.loopK (ι := Nat × Int) [1, 25, 26] (fun ⟨j, w⟩ => [(27, .c (.int .i64 (j : Int))), (4, .c (.int .i64 w))]) (fun _ oo => oo) (fun ⟨j, w⟩ => j ≤ hs.length ∧ fstE ((hs.take j).map HdT.err) = 0 ∧ w = (if twiceB ⟨.mk k bt t ks is, hs⟩ (hs.take j) 0 then 6 else 0)) (fun ⟨j, w⟩ => hs.length - j) ⟨0, 0⟩ (⟨Nat.zero_le _, rfl, rfl⟩) (Wk.re (.cons rfl lr (.cons rfl lr (.cons rfl lr (.cons rfl lr (.cons rfl lr .nil))))) (Reown.refl _) (fun _ h => by first | exact h | simp [h])) ?_)))
  intro ⟨j, w⟩ ⟨hj, hf0, htw⟩
  refine J.conv (by (try simp only [nl, stepsO, valO, nthO, curO, mrg, AV.cellsOf, splice_zero, splice_succ, Nat.reduceAdd]); rfl) ?_
  refine Zs (Zq rfl (QW.lss (.tmp rfl) (.tmp rfl)) (Zn (J.seq ?_)))
  refine J.cond (.tmp rfl) (fun c4 => ?_) (fun c4 => ?_)
  · skip
    have hlt : j < hs.length := by simpa [HdT.css_length] using c4
    refine Zk (J.seq (J.block (Zs (Zq rfl (QW.move (.tmp rfl)) (Zq rfl (QW.index_sl sl36 ty76 rfl (.tmp rfl) (.tmp rfl) (by first | rfl | omega | (simp; done)) (by exact HdT.css_getE _ hlt)) ?_)))))
    refine Zq rfl (by first | exact QW.load_ref ty76 (.tmp rfl) rfl rfl | exact QW.load_ref ty76 (.tmp rfl) (take_at0 rfl rfl) rfl) ?_
    refine JL.alloc z76 rfl rfl fun b6 => Zq rfl (QW.assign (.tmp rfl)) ?_
    first | refine JL.store_boxF 0 ty76 (.tmp rfl) rfl (.tmp rfl) (by first | rfl | assumption) rfl rfl rfl ?_ | refine JL.store_boxF 0 ty76 (.tmp rfl) rfl (.tmp rfl) (by first | rfl | assumption) rfl rfl rfl ?_ | refine JL.store_boxF 0 ty76 (.tmp rfl) rfl (.tmp rfl) (by first | rfl | assumption) rfl rfl rfl ?_ | refine JL.store_boxF 0 ty76 (.tmp rfl) rfl (.tmp rfl) (by first | rfl | assumption) rfl rfl rfl ?_ | refine JL.store_box 0 ty76 (.tmp rfl) rfl (.tmp rfl) (by first | rfl | assumption) rfl rfl rfl rfl ?_ | refine JL.store_box 0 ty76 (.tmp rfl) rfl (.tmp rfl) (by first | rfl | assumption) rfl rfl rfl rfl ?_
    refine Zn (J.seq (Zs (Zq rfl (by first | exact QW.load_box 0 ty76 (.tmp rfl) rfl rfl rfl | exact QW.load_box 0 ty76 (.tmp rfl) rfl (take_at rfl rfl) rfl) ?_)))
    refine Zq rfl (QW.call gofn30 (.cons (.tmp rfl) .nil) (hcheck_ok (hhw _ (List.getElem_mem hlt)))) (Zq rfl (QW.assign (.tmp rfl)) (Zn (Zs (Zq rfl (QW.move (.tmp rfl)) (Zq rfl (QW.neq (.tmp rfl) .const) (Zn ?_))))))
    refine J.cond (.tmp rfl) (fun c5 => ?_) (fun c5 => ?_)
    · skip
      have he : ¬ hs[j].err = 0 := by simpa using c5
      refine Zs (Zq rfl (QW.move (.tmp rfl)) (Zq rfl (QW.assign (.tmp rfl)) (Zn (J.ret (thenQ.r (blkQ.r (thenQ.r (thenQ.r (blkQ.r ?_)))))))))
      exact thenQ.r (Zr [.k, .k] (RetEv.one rfl (REv.tmp rfl lr)) rfl ⟨by rw [perr, if_neg (fun h => h hi0), if_neg (fun h => h hk), if_neg h16, fst_take hlt hf0 he, if_pos he], rfl⟩)
    have he : hs[j].err = 0 := by simpa using c5
    refine Zk (Zs (Zq rfl (by first | exact QW.load_box 1 ty38 (.tmp rfl) rfl rfl rfl | exact QW.load_box 1 ty38 (.tmp rfl) rfl (take_at (PgT.cs_length _ _) rfl) (PgT.cs_length _ _)) ?_))
    refine Zq rfl (QW.field_ptr fo76_0 (.tmp rfl) rfl) (Zq rfl (QW.load_box1 0 ty9 (.tmp rfl) rfl rfl) (Zq rfl (QW.call gofn31 (.cons (.tmp rfl) (.cons (.tmp rfl) .nil)) (handles_ok (p := ⟨.mk k bt t ks is, hs⟩) hp _)) (Zq rfl (QW.move (.tmp rfl)) (Zq rfl (QW.neq (.tmp rfl) (.tmp rfl)) (Zn ?_)))))
    refine J.cond (.tmp rfl) (fun c6 => ?_) (fun c6 => ?_)
    · skip
      have ht1 : (PgT.at ⟨.mk k bt t ks is, hs⟩ hs[j].on != (j : Int)) = true := c6
      refine J.region_lit (Zq rfl (QW.assign .const) (JL.nil (blkQ.n (thenQ.n (J.region_lit (Zq rfl (QW.add (.tmp rfl) .const (by first | exact w64n (by first | rfl | omega | (simp; done)) (by omega) | exact w64 (by omega) | rfl)) ?_))))))
      refine Zq rfl (QW.move (.tmp rfl)) (Zn ?_)
      exact ⟨⟨j + 1, 6⟩, ⟨hlt, fst_snoc hlt hf0 he, by rw [twice_take _ hlt, ht1, Bool.or_true]; rfl⟩, by show hs.length - (j + 1) < hs.length - j; omega, Wk.re (.cons rfl lr (.cons rfl lr (.cons rfl lr (.cons rfl lr (.cons rfl lr .nil))))) (Reown.dropN 1 _ rfl) (fun _ h => by first | exact h | simp [h])⟩
    have ht1 : (PgT.at ⟨.mk k bt t ks is, hs⟩ hs[j].on != (j : Int)) = false := by simpa using c6
    refine J.skip (blkQ.n (thenQ.n (J.region_lit (Zq rfl (QW.add (.tmp rfl) .const (by first | exact w64n (by first | rfl | omega | (simp; done)) (by omega) | exact w64 (by omega) | rfl)) ?_))))
    refine Zq rfl (QW.move (.tmp rfl)) (Zn ?_)
    exact ⟨⟨j + 1, w⟩, ⟨hlt, fst_snoc hlt hf0 he, by rw [twice_take _ hlt, ht1, Bool.or_false]; exact htw⟩, by show hs.length - (j + 1) < hs.length - j; omega, Wk.re (.cons rfl lr (.cons rfl lr (.cons rfl lr (.cons rfl lr (.cons rfl lr .nil))))) (Reown.dropN 1 _ rfl) (fun _ h => by first | exact h | simp [h])⟩
  obtain rfl : j = hs.length := by (simp [HdT.css_length] at c4; omega)
  rw [List.take_length] at hf0 htw
  exact J.exit (thenQ.x (thenQ.x (blkQ.hit (thenQ.n (Zs (Zq rfl (QW.move (.tmp rfl)) (Zq rfl (QW.assign (.tmp rfl)) (Zn (J.ret (Zr [.k] (RetEv.one rfl (REv.tmp rfl lr)) rfl ⟨by rw [perr, if_neg (fun h => h hi0), if_neg (fun h => h hk), if_neg h16, if_neg (fun h => h hf0), htw], rfl⟩))))))))))
end Go.Proofs.YtmccnmahegbmpaaGreat.J

/- More fuel changes nothing but what is left. -/
namespace Go.Proofs.YtmccnmahegbmpaaGreat.J
open Go Go.RowKit
variable {α β : Type}
end Go.Proofs.YtmccnmahegbmpaaGreat.J

/- An error is never 0; what is told of a reckoning. -/
namespace Go.Proofs.YtmccnmahegbmpaaGreat.J
open Go Go.RowKit
variable {α β : Type}
def Nz (r : Except Int α) : Prop := ∀ c, r = .error c → c ≠ 0
theorem Nz.ok (v : α) : Nz (.ok v) := fun c h => by cases h
theorem Nz.er {c : Int} (h : c ≠ 0) : Nz (.error c : Except Int α) := fun c' h' => by cases h'; exact h
theorem Nz.ite {p : Prop} [Decidable p] {r q : Except Int α} (h1 : p → Nz r) (h2 : ¬ p → Nz q) : Nz (if p then r else q) := by
  by_cases h : p
  · rw [if_pos h]; exact h1 h
  · rw [if_neg h]; exact h2 h
theorem Nz.tru {r : ER V} (h : Nz r) : Nz (truE r) := by
  cases r with
  | error c => exact fun c' h' => by cases h'; exact h c rfl
  | ok p => exact Nz.ite (fun _ => .ok _) fun _ => .er (by decide)
theorem getE_nz (v : V) (s : StT) : Nz (getE v s) := by
  unfold getE; by_cases h : (v.getv [s]).2 = 0
  · rw [if_pos h]; exact .ok _
  · rw [if_neg h]; exact .er h
theorem setE_nz (v : V) (s : StT) (x : V) : Nz (setE v s x) := Nz.ite (fun _ => .ok _) fun _ => .er (by decide)
theorem madeE_nz (v : V) : Nz (madeE v) := Nz.ite (fun _ => .ok _) fun _ => .er (by decide)
theorem one_nz (o : Int) (t : Str) (a : V) : Nz (oneE o t a) := by
  unfold oneE
  repeat' with_reducible refine Nz.ite (fun _ => ?_) (fun _ => ?_)
  all_goals first | exact getE_nz _ _ | exact .ok _ | exact .er (by decide)
theorem two_nz (o : Int) (t : Str) (a b : V) : Nz (twoE o t a b) := by
  unfold twoE
  repeat' with_reducible refine Nz.ite (fun _ => ?_) (fun _ => ?_)
  all_goals first | exact getE_nz _ _ | exact setE_nz _ _ _ | exact .ok _ | exact .er (by decide)
theorem plain_nz {o : Int} {t : Str} {l : List V} (h : o = 23 ∨ l.length = 1 ∨ l.length = 2) : Nz (plainE o t l) := by
  unfold plainE
  refine Nz.ite (fun _ => madeE_nz _) fun h23 => ?_
  match l, h with
  | [a], _ => exact one_nz _ _ _
  | [a, b], _ => exact two_nz _ _ _ _
  | [], h => simp at h; exact absurd h h23
  | _ :: _ :: _ :: _, h => simp at h; exact absurd h h23
theorem map_nz {g : V → Int → ER V} (hg : ∀ x f, Nz (g x f)) : ∀ l f, Nz (mapE g l f)
  | [], f => .ok _
  | x :: r, f => by
    have h1 := hg x f
    rw [mapE]
    cases h : g x f with
    | error c => exact .er (h1 c h)
    | ok p =>
      have h2 := map_nz hg r p.2
      simp only []
      cases h3 : mapE g r p.2 with
      | error c => exact .er (h2 c h3)
      | ok q => exact .ok _
theorem fil_nz {g : V → Int → ER Bool} (hg : ∀ x f, Nz (g x f)) : ∀ l f, Nz (filE g l f)
  | [], f => .ok _
  | x :: r, f => by
    have h1 := hg x f
    rw [filE]
    cases h : g x f with
    | error c => exact .er (h1 c h)
    | ok p =>
      have h2 := fil_nz hg r p.2
      simp only []
      cases h3 : filE g r p.2 with
      | error c => exact .er (h2 c h3)
      | ok q => exact .ok _
theorem fnd_nz {g : V → Int → ER Bool} (hg : ∀ x f, Nz (g x f)) : ∀ l f, Nz (fndE g l f)
  | [], f => .er (by decide)
  | x :: r, f => by
    have h1 := hg x f
    rw [fndE]
    cases h : g x f with
    | error c => exact .er (h1 c h)
    | ok p => exact Nz.ite (fun _ => .ok _) fun _ => fnd_nz hg r p.2
theorem madeF_nz {r : ER (List V)} (h : Nz r) : Nz (madeF r) := by
  unfold madeF
  cases r with
  | error c => exact .er (h c rfl)
  | ok p =>
    have h2 := madeE_nz (.li p.1)
    simp only []
    cases h3 : madeE (.li p.1) with
    | error c => exact .er (h2 c h3)
    | ok q => exact .ok _
theorem over_nz {o : Int} {g : V → Int → ER V} {r : ER V} (hg : ∀ x f, Nz (g x f)) (hr : Nz r) : Nz (overE o g r) := by
  unfold overE
  cases r with
  | error c => exact .er (hr c rfl)
  | ok p => exact Nz.ite (fun _ => .er (by decide)) fun _ => Nz.ite (fun _ => madeF_nz (map_nz hg _ _)) fun _ => Nz.ite (fun _ => madeF_nz (fil_nz (fun x f => Nz.tru (hg x f)) _ _)) fun _ => fnd_nz (fun x f => Nz.tru (hg x f)) _ _
theorem evs_len : ∀ (l : List EX) {s : ScT} {f f' : Int} {vs : List V}, EX.evs l s f = .ok (vs, f') → vs.length = l.length
  | [], s, f, f', vs, h => by rw [EX.evs] at h; cases h; rfl
  | x :: r, s, f, f', vs, h => by
    rw [EX.evs] at h
    cases h1 : x.ev s f with
    | error c => rw [h1] at h; cases h
    | ok p =>
      rw [h1] at h
      simp only [] at h
      cases h2 : EX.evs r s p.2 with
      | error c => rw [h2] at h; cases h
      | ok q =>
        rw [h2] at h; cases h
        simp [evs_len r h2]
mutual
theorem EX.ev_nz : ∀ (e : EX) (s : ScT) (f : Int), e.Fine → Nz (e.ev s f)
  | .mk o b t l, s, f, hf => by
    obtain ⟨h0, h30, h8, ha⟩ := EX.ok_args hf.part
    have hk : ∀ x ∈ l, x.Fine := fun x hx => hf.kid hx
    rw [EX.ev]
    refine Nz.ite (fun _ => .er (by decide)) fun _ => ?_
    refine Nz.ite (fun _ => .ok _) fun n0 => Nz.ite (fun _ => .ok _) fun n1 => Nz.ite (fun _ => .ok _) fun n2 => Nz.ite (fun _ => .ok _) fun n3 => Nz.ite (fun _ => .ok _) fun n4 => Nz.ite (fun _ => .ok _) fun n5 => Nz.ite (fun _ => .ok _) fun n6 => Nz.ite (fun _ => .ok _) fun n7 => ?_
    refine Nz.ite (fun c => EX.evAO_nz false l s _ hk (by omega)) fun n18 => Nz.ite (fun c => EX.evAO_nz true l s _ hk (by omega)) fun n19 => Nz.ite (fun c => EX.evIf_nz l s _ hk (by omega)) fun n21 => Nz.ite (fun c => EX.evOv_nz o l s _ hk (by omega)) fun nov => ?_
    have h1 := EX.evs_nz l s (f - 1) hk
    cases h : EX.evs l s (f - 1) with
    | error c => exact .er (h1 c h)
    | ok p =>
      have h2 := evs_len l h
      have h3 := plain_nz (o := o) (t := t) (l := p.1) (by omega)
      simp only []
      cases h4 : plainE o t p.1 with
      | error c => exact .er (h3 c h4)
      | ok q => exact .ok _
theorem EX.evs_nz : ∀ (l : List EX) (s : ScT) (f : Int), (∀ x ∈ l, x.Fine) → Nz (EX.evs l s f)
  | [], s, f, hf => by rw [EX.evs]; exact .ok _
  | x :: r, s, f, hf => by
    have h1 := EX.ev_nz x s f (hf x (by simp))
    rw [EX.evs]
    cases h : x.ev s f with
    | error c => exact .er (h1 c h)
    | ok p =>
      have h2 := EX.evs_nz r s p.2 (fun z hz => hf z (by simp [hz]))
      simp only []
      cases h3 : EX.evs r s p.2 with
      | error c => exact .er (h2 c h3)
      | ok q => exact .ok _
theorem EX.evAO_nz : ∀ (k : Bool) (l : List EX) (s : ScT) (f : Int), (∀ x ∈ l, x.Fine) → l.length = 2 → Nz (EX.evAO k l s f)
  | k, [], s, f, hf, h2 => by simp at h2
  | k, [_], s, f, hf, h2 => by simp at h2
  | k, x :: y :: _, s, f, hf, h2 => by
    have h1 := Nz.tru (EX.ev_nz x s f (hf x (by simp)))
    rw [EX.evAO]
    cases h : truE (x.ev s f) with
    | error c => exact .er (h1 c h)
    | ok p =>
      refine Nz.ite (fun _ => .ok _) fun _ => ?_
      have h3 := Nz.tru (EX.ev_nz y s p.2 (hf y (by simp)))
      cases h4 : truE (y.ev s p.2) with
      | error c => exact .er (h3 c h4)
      | ok q => exact .ok _
theorem EX.evIf_nz : ∀ (l : List EX) (s : ScT) (f : Int), (∀ x ∈ l, x.Fine) → l.length = 3 → Nz (EX.evIf l s f)
  | [], s, f, hf, h2 => by simp at h2
  | [_], s, f, hf, h2 => by simp at h2
  | [_, _], s, f, hf, h2 => by simp at h2
  | x :: y :: z :: _, s, f, hf, h2 => by
    have h1 := Nz.tru (EX.ev_nz x s f (hf x (by simp)))
    rw [EX.evIf]
    cases h : truE (x.ev s f) with
    | error c => exact .er (h1 c h)
    | ok p => exact Nz.ite (fun _ => EX.ev_nz y s p.2 (hf y (by simp))) fun _ => EX.ev_nz z s p.2 (hf z (by simp))
theorem EX.evOv_nz : ∀ (o : Int) (l : List EX) (s : ScT) (f : Int), (∀ x ∈ l, x.Fine) → l.length = 2 → Nz (EX.evOv o l s f)
  | o, [], s, f, hf, h2 => by simp at h2
  | o, [_], s, f, hf, h2 => by simp at h2
  | o, x :: y :: _, s, f, hf, h2 => by
    rw [EX.evOv]
    exact over_nz (fun it g => EX.ev_nz y { s with it } g (hf y (by simp))) (EX.ev_nz x s f (hf x (by simp)))
end
end Go.Proofs.YtmccnmahegbmpaaGreat.J

/- Walks: the runner: what it reckons, what it sets. -/
namespace Go.Proofs.YtmccnmahegbmpaaGreat.J
open Go Go.RowKit
set_option maxRecDepth 10000
set_option maxHeartbeats 4000000
theorem mb_scope {s : ScT} {f : Int} : ((s.st.cs false ++ s.ev.cs false ++ s.it.cs false ++ [AV.c (.int .i64 f)]).drop 0).take 15 = s.cs := by
  rw [List.drop_zero]; exact List.take_left' (ScT.cs_len s)
theorem mb_setst {s : ScT} {f : Int} {x : V} : splice (s.st.cs false ++ s.ev.cs false ++ s.it.cs false ++ [AV.c (.int .i64 f)]) 0 (x.cs false) = x.cs false ++ s.ev.cs false ++ s.it.cs false ++ [AV.c (.int .i64 f)] := by
  obtain ⟨⟨k1, b1, t1, ks1, is1⟩, ⟨k2, b2, t2, ks2, is2⟩, ⟨k3, b3, t3, ks3, is3⟩⟩ := s
  obtain ⟨k4, b4, t4, ks4, is4⟩ := x; rfl
theorem runT_no {e : EX} {s : ScT} {f : Int} {v : V} {g c : Int} (h : runT e s f = (v, g, c)) (hc : ¬ c = 0) : e.ev s f = .error c := by
  unfold runT at h
  cases he : e.ev s f with
  | error d => rw [he] at h; rw [show d = c from (Prod.mk.inj (Prod.mk.inj h).2).2]
  | ok p => rw [he] at h; exact absurd (Prod.mk.inj (Prod.mk.inj h).2).2.symm hc
theorem runT_yes {e : EX} {s : ScT} {f : Int} {v : V} {g : Int} (hn : ∀ c, e.ev s f = .error c → c ≠ 0) (h : runT e s f = (v, g, 0)) : e.ev s f = .ok (v, g) := by
  unfold runT at h
  cases he : e.ev s f with
  | error d => rw [he] at h; exact absurd (Prod.mk.inj (Prod.mk.inj h).2).2 (hn d he)
  | ok p => obtain ⟨v', g'⟩ := p; rw [he] at h; obtain ⟨h1, h2⟩ := Prod.mk.inj h; obtain ⟨h2, -⟩ := Prod.mk.inj h2; rw [h1, h2]
def EvS (r : ER V) (b : Nat) (s : ScT) : Res → List Own → Prop := PanR (errE r = 0) (errV (errE r)) fun x o => ∃ v f', r = .ok (v, f') ∧ x = .agg (v.cs true) ∧ o = [mb b s f']
theorem EvS.ok {r : ER V} {b : Nat} {s : ScT} {v : V} {f' : Int} (h : r = .ok (v, f')) : EvS r b s (.ret (.agg (v.cs true))) [mb b s f'] := .inl ⟨by rw [h]; rfl, _, rfl, v, f', h, rfl, rfl⟩
theorem EvS.er {r : ER V} {b : Nat} {s : ScT} {c : Int} (h : r = .error c) (hc : ¬ c = 0) : EvS r b s (.pan (.iface 33 (.int .i64 c))) [] := .inr ⟨by rw [h]; exact hc, by rw [h]; rfl, rfl⟩
def trueT (v : V) : Bool × Int := if v.kind ≠ 1 ∨ v.err ≠ 0 then (false, 81) else (v.bits == 1, 0)
theorem css_snocF (fr : Bool) (vs : List V) (v : V) : V.css fr vs ++ [v.cs fr] = V.css fr (vs ++ [v]) := by
  simp [V.css_eq]
theorem etrue_ok {fr : Bool} {v : V} {ys : List AV} (hv : Vc fr v ys) (hw : v.wf) : Fn Tryz.prog 65 [.agg ys] (.tup [.c (.bool (trueT v).1), .c (.int .i64 (trueT v).2)]) := by
  subst hv
  obtain ⟨vk, vb, vt, vks, vis⟩ := v
  refine AC.of_J Tryz.func65 rfl Tryz.ntmps65 rfl fun w0 A0 => ?_
  refine Zs (JL.box_agg (.tmp rfl) rfl fun b1 => Zq rfl (QW.assign .const) (Zq rfl (QW.assign .const) (Zn (J.seq (Zs (Zq rfl (QW.field_ptr fo26_0 (.tmp rfl) rfl) (Zq rfl (QW.load_box1 0 ty3 (.tmp rfl) rfl rfl) (Zq rfl (QW.neq (.tmp rfl) .const) ?_))))))))
  refine Zq rfl (QW.move (.tmp rfl)) (Zg rfl (fun hg => (by first | exact QW.load_box 0 ty26 (.tmp rfl) rfl rfl rfl | exact QW.load_box 0 ty26 (.tmp rfl) rfl (take_at vl rfl) vl)) ?_)
  refine Zg rfl (fun hg => (QW.call gofn16 (.cons (.when rfl hg) .nil) (check_ok (v := .mk vk vb vt vks vis) Vc.self hw))) (Zg rfl (fun hg => (QW.neq (.when rfl hg) .const)) (Zq rfl (QW.pick_or (.tmp rfl) (.tmp rfl)) (Zn ?_)))
  refine J.cond (.tmp rfl) (fun c1 => ?_) (fun c1 => ?_)
  · skip
    have hb : vk ≠ 1 ∨ (V.mk vk vb vt vks vis).err ≠ 0 := by (simp at c1; exact c1)
    exact Zs (Zq rfl (QW.assign .const) (Zq rfl (QW.assign .const) (Zn (J.ret (thenQ.r (Zr [.k] (RetEv.two rfl (REv.tmp rfl lr) (REv.tmp rfl lr)) rfl ⟨by rw [show trueT (V.mk vk vb vt vks vis) = (false, 81) from if_pos hb], rfl⟩))))))
  have hb : ¬ (vk ≠ 1 ∨ (V.mk vk vb vt vks vis).err ≠ 0) := by (simp at c1; intro h; rcases h with h | h; exact h c1.1; exact h c1.2)
  exact Zk (Zs (Zq rfl (QW.field_ptr fo26_1 (.tmp rfl) rfl) (Zq rfl (QW.load_box1 0 ty22 (.tmp rfl) rfl rfl) (Zq rfl (QW.eql (.tmp rfl) .const) (Zq rfl (QW.assign (.tmp rfl)) (Zq rfl (QW.assign .const) (Zn (J.ret (Zr [.k] (RetEv.two rfl (REv.tmp rfl lr) (REv.tmp rfl lr)) rfl ⟨by rw [show trueT (V.mk vk vb vt vks vis) = (vb == 1, 0) from if_neg hb, show (((vb : Nat) : Int) == 1) = (vb == 1) by rw [Bool.eq_iff_iff]; simp; omega], rfl⟩)))))))))
theorem reval16_ok {e : EX} {s : ScT} {f : Int} {b : Nat} {fr : Bool} {ys : List AV} (he : Xc fr e ys) (hw : e.wf) (hf : e.Fine) (hs : s.good) (h0 : okF f) :
    AC Tryz.prog 63 [mb b s f] [pb b, .agg ys] (EvS (e.ev s f) b s) := by
  subst he
  obtain ⟨⟨v, g, c⟩, hR⟩ : ∃ p, runT e s f = p := ⟨_, rfl⟩
  have hrun := hR ▸ run_ok (fr := fr) Xc.self hw hf hs h0
  refine AC.of_J Tryz.func63 rfl Tryz.ntmps63 rfl fun w0 A0 => ?_
  refine Zs (JL.box_agg (.tmp rfl) rfl fun b3 => JL.alloc z26 rfl rfl fun b4 => Zn (J.seq (J.regionX mixed (Zo 0 1 [] rfl (fun _ ho_ => by first | exact QW.load_box 1 ty79 (.tmp rfl) ho_ rfl rfl | exact QW.load_box 1 ty79 (.tmp rfl) ho_ (take_at xl rfl) xl) ?_))))
  refine Zf 1 [] rfl (fun _ => QW.move (.tmp rfl)) (Zf 2 [10] rfl (fun _ => QW.nil_ptr (.tmp rfl)) (Zf 3 [11] rfl (fun _ => QW.field_ptr fo119_0 (.tmp rfl) rfl) (Zo 4 2 [12] rfl (fun _ ho_ => QW.load_box 2 ty117 (.tmp rfl) ho_ mb_scope (ScT.cs_len _)) (Zf 5 [] rfl (fun _ => QW.move (.tmp rfl)) (Zf 6 [14] rfl (fun _ => QW.nil_ptr (.tmp rfl)) (Zf 7 [15] rfl (fun _ => QW.field_ptr fo119_1 (.tmp rfl) rfl) (Zo 8 2 [16] rfl (fun _ ho_ => QW.load_box1 2 ty3 (.tmp rfl) ho_ mb_fuel) (Zf 9 [9, 13, 17] rfl (fun _ => QW.call gofn76 (.cons (.tmp rfl) (.cons (.tmp rfl) (.cons (.tmp rfl) .nil))) (hrun)) (Zf 10 [18] rfl (fun _ => QW.move (.tmp rfl)) ?_)))))))))
  refine Zf 11 [8] rfl (fun _ => QW.extract (.tmp rfl) rfl) (Zf 12 [8] rfl (fun _ => QW.extract (.tmp rfl) rfl) (Zf 13 [8] rfl (fun _ => QW.extract (.tmp rfl) rfl) (JX.a 14 rfl (AllocOp.mk z26 rfl) rfl rfl rfl rfl rfl (JX.one 15 [true, false, false, true, true, true, true, true, true, true, true, true, true, true, true] rfl (by kernel_rfl) (by kernel_rfl) rfl rfl (by kernel_rfl) rfl fun bs15_ pe_ ex_ => ?_))))
  refine JL.conv (by (try simp only [vlF, bxF, tkM, lvM, Flt.val, Flt.bx, nx, nl, stepsO, valO, nthO, curO, mrg, AV.cellsOf, splice_zero, splice_succ, Nat.reduceAdd]); rfl) ?_
  first | refine JL.store_boxF 3 ty26 (.tmp rfl) rfl (.tmp rfl) (by first | rfl | assumption) rfl rfl rfl ?_ | refine JL.store_boxF 3 ty26 (.tmp rfl) rfl (.tmp rfl) (by first | rfl | assumption) rfl vl rfl ?_ | refine JL.store_boxF 3 ty26 (.tmp rfl) rfl (.tmp rfl) (by first | rfl | assumption) vl rfl rfl ?_ | refine JL.store_boxF 3 ty26 (.tmp rfl) rfl (.tmp rfl) (by first | rfl | assumption) vl vl rfl ?_ | refine JL.store_box 3 ty26 (.tmp rfl) rfl (.tmp rfl) (by first | rfl | assumption) rfl rfl rfl rfl ?_ | refine JL.store_box 3 ty26 (.tmp rfl) rfl (.tmp rfl) (by first | rfl | assumption) vl rfl rfl rfl ?_
  refine JL.nil ?_
  refine thenQ.n ⟨[], _, rfl, rfl, rfl, rfl, rfl, Reown.tkN 4 rfl, trivial, ⟨trivial, ⟨trivial, trivial⟩⟩, ?_⟩
  refine JX.conv (S' := [15, 14, 11, 10, 9, 8, 7, 6, 5, 4, 3, 2, 1, 0]) rfl (by (try simp only [lvM]); rfl) (by (try simp only [vlF, bxF, tkM, lvM, Flt.val, Flt.bx, nx, nl, stepsO, valO, nthO, curO, mrg, AV.cellsOf, splice_zero, splice_succ, Nat.reduceAdd]); rfl) ?_
  refine Zf 16 [20] rfl (fun _ => QW.assign (.tmp rfl)) (Zf 17 [21] rfl (fun _ => QW.assign (.tmp rfl)) (JX.fin (by kernel_rfl) (by kernel_rfl) fun bs_ => ?_))
  refine QX.conv (by (try simp only [vlF, bxF, tkM, lvM, Flt.val, Flt.bx, nx, nl, stepsO, valO, nthO, curO, mrg, AV.cellsOf, splice_zero, splice_succ, Nat.reduceAdd]); rfl) ?_
  refine thenQ.n (J.seq (Zs (Zq rfl (QW.move (.tmp rfl)) (Zq rfl (QW.neq (.tmp rfl) .const) (Zn ?_)))))
  refine J.cond (.tmp rfl) (fun c1 => ?_) (fun c1 => ?_)
  · skip
    have hc : ¬ c = 0 := by simpa using c1
    refine J.region_lit (Zq rfl (QW.move (.tmp rfl)) (Zq rfl (QW.mkIface ⟨_, Tryz.underlying33, by intro ms h; cases h⟩ (.tmp rfl)) ?_))
    refine JL.panic (.tmp rfl) (thenQ.p ?_)
    exact ⟨_, selP [.k, .k, .k, .k] _, _, rfl, rfl, sel_perm [.k, .k, .k, .k] _, EvS.er (runT_no hR hc) hc⟩
  obtain rfl : c = 0 := by simpa using c1
  have hv := runT_yes (EX.ev_nz e s f hf) hR
  refine Zk (Zs (Zq rfl (QW.move (.tmp rfl)) (Zq rfl (QW.move (.tmp rfl)) (Zq rfl (QW.nil_ptr (.tmp rfl)) (Zq rfl (QW.field_ptr fo119_1 (.tmp rfl) rfl) (JL.store_box 2 ty3 (.tmp rfl) rfl (.tmp rfl) rfl rfl (by rw [mb_len]; rfl) mb_setf rfl ?_))))))
  refine Zn (Zs (Zq rfl (by first | exact QW.load_box 3 ty26 (.tmp rfl) rfl rfl rfl | exact QW.load_box 3 ty26 (.tmp rfl) rfl (take_at vl rfl) vl) ?_))
  first | refine JL.store_boxF 0 ty26 (.tmp rfl) rfl (.tmp rfl) (by first | rfl | assumption) rfl rfl rfl ?_ | refine JL.store_boxF 0 ty26 (.tmp rfl) rfl (.tmp rfl) (by first | rfl | assumption) rfl vl rfl ?_ | refine JL.store_boxF 0 ty26 (.tmp rfl) rfl (.tmp rfl) (by first | rfl | assumption) vl rfl rfl ?_ | refine JL.store_boxF 0 ty26 (.tmp rfl) rfl (.tmp rfl) (by first | rfl | assumption) vl vl rfl ?_ | refine JL.store_box 0 ty26 (.tmp rfl) rfl (.tmp rfl) (by first | rfl | assumption) rfl rfl rfl rfl ?_ | refine JL.store_box 0 ty26 (.tmp rfl) rfl (.tmp rfl) (by first | rfl | assumption) vl rfl rfl rfl ?_
  exact Zn (J.ret (Zr [.k, .k, .p, .k] (RetEv.one rfl (by first | exact REv.cell 0 ty26 rfl rfl rfl rfl lr | exact REv.cell 0 ty26 rfl rfl (take_at vl rfl) vl lr)) rfl (EvS.ok hv)))
def setsE (s : ScT) (l : List SetT) (f : Int) : ER V := match EX.evs (l.map SetT.ex) s f with
  | .error e => .error e
  | .ok (vs, f1) => match putsE s.st (l.zip vs) with
    | .error e => .error e
    | .ok v => .ok (v, f1)
def StR (r : ER V) (b : Nat) (s : ScT) : Res → List Own → Prop := PanR (errE r = 0) (errV (errE r)) fun x o => ∃ v f', r = .ok (v, f') ∧ x = .tup [] ∧ o = [mb b { s with st := v } f']
theorem StR.ok {r : ER V} {b : Nat} {s : ScT} {v : V} {f' : Int} (h : r = .ok (v, f')) : StR r b s (.ret (.tup [])) [mb b { s with st := v } f'] := .inl ⟨by rw [h]; rfl, _, rfl, v, f', h, rfl, rfl⟩
theorem StR.er {r : ER V} {b : Nat} {s : ScT} {c : Int} (h : r = .error c) (hc : ¬ c = 0) : StR r b s (.pan (.iface 33 (.int .i64 c))) [] := .inr ⟨by rw [h]; exact hc, by rw [h]; rfl, rfl⟩
theorem setsE_er {s : ScT} {l : List SetT} {f c : Int} (h : EX.evs (l.map SetT.ex) s f = .error c) : setsE s l f = .error c := by unfold setsE; rw [h]
theorem setsE_no {s : ScT} {l : List SetT} {f g c : Int} {vs : List V} (h : EX.evs (l.map SetT.ex) s f = .ok (vs, g)) (h2 : putsE s.st (l.zip vs) = .error c) : setsE s l f = .error c := by unfold setsE; rw [h]; simp only []; rw [h2]
theorem setsE_ok {s : ScT} {l : List SetT} {f g : Int} {vs : List V} {v : V} (h : EX.evs (l.map SetT.ex) s f = .ok (vs, g)) (h2 : putsE s.st (l.zip vs) = .ok v) : setsE s l f = .ok (v, g) := by unfold setsE; rw [h]; simp only []; rw [h2]
theorem zip_drop {l : List SetT} {vs : List V} {i : Nat} (h : i < l.length) (h2 : i < vs.length) : (l.zip vs).drop i = (l[i], vs[i]) :: (l.zip vs).drop (i + 1) := by
  rw [List.drop_eq_getElem_cons (by simp; omega)]; simp
theorem put_bad {v x : V} {s : SetT} {r : List (SetT × V)} (h : ¬ (v.setv [⟨true, s.key, 0⟩] x).2 = 0) : putsE v ((s, x) :: r) = .error 84 := by rw [putsE, if_neg h]
theorem put_go {v x : V} {s : SetT} {r : List (SetT × V)} (h : (v.setv [⟨true, s.key, 0⟩] x).2 = 0) : putsE v ((s, x) :: r) = putsE (v.setv [⟨true, s.key, 0⟩] x).1 r := by rw [putsE, if_pos h]
theorem evs_stepS {l : List SetT} {s : ScT} {j : Nat} {vs : List V} {v : V} {g f1 : Int} (hj : j < l.length) (h : l[j].ex.ev s g = .ok (v, f1)) : joinV vs (EX.evs ((l.map SetT.ex).drop j) s g) = joinV (vs ++ [v]) (EX.evs ((l.map SetT.ex).drop (j + 1)) s f1) :=
  evs_step (by simpa using hj) (by simpa using h)
theorem evs_badS {l : List SetT} {s : ScT} {j : Nat} {vs : List V} {g c : Int} (hj : j < l.length) (h : l[j].ex.ev s g = .error c) : joinV vs (EX.evs ((l.map SetT.ex).drop j) s g) = .error c :=
  evs_bad (by simpa using hj) (by simpa using h)
theorem rsets_ok {l : List SetT} {s : ScT} {f : Int} {b : Nat} {fr : Bool} (h8 : l.length ≤ 8) (hw : ∀ x ∈ l, x.wf) (hf : ∀ x ∈ l, x.ex.Fine) (hs : s.good) (h0 : okF f) :
    AC Tryz.prog 55 [mb b s f] [pb b, .sl fr false eSe (SetT.css fr l)] (StR (setsE s l f) b s) := by
  refine AC.of_J Tryz.func55 rfl Tryz.ntmps55 rfl fun w0 A0 => ?_
  refine Zs (Zq rfl (QW.assign .const) (Zn (J.seq (Zs (Zq rfl (QW.move (.tmp rfl)) (Zq rfl (by first | exact QW.len_slE sl73 (.tmp rfl) wl | exact QW.len_slE sl73 (.tmp rfl) (SetT.css_length _ _) | exact QW.len_slE sl73 (.tmp rfl) (StT.css_length _) | exact QW.len_sl sl73 (.tmp rfl) | exact QW.len_nil sl73 (.tmp rfl)) ?_))))))
  refine Zq rfl (QW.move .const) (Zn (J.block (J.reown (Reown.nilArrE eV _) (J.loopK (ι := Nat × Value × List V × Int) [0, 1, 11, 12] (fun ⟨j, v, vs, g1⟩ => [(13, .c (.int .i64 (j : Int))), (4, .c v)]) (fun ⟨j, v, vs, g1⟩ oo => List.set (List.set oo 1 (.arr v eV (V.css true vs))) 0 (mb b s g1)) (fun ⟨j, v, vs, g1⟩ => j ≤ l.length ∧ vs.length = j ∧ (∀ x ∈ vs, x.good) ∧ okF g1 ∧ EX.evs (l.map SetT.ex) s f = joinV vs (EX.evs ((l.map SetT.ex).drop j) s g1)) (fun ⟨j, v, vs, g1⟩ => l.length - j) ⟨0, .slice none 0 0, [], f⟩ (⟨Nat.zero_le _, rfl, (fun _ h => by cases h), h0, joinV_nil _⟩) (Wk.re (.cons rfl lr (.cons rfl lr (.cons rfl lr (.cons rfl lr (.cons rfl lr (.cons rfl lr .nil)))))) (Reown.refl _) (fun _ h => by first | exact h | simp [h])) ?_))))
  intro ⟨j, v, vs, g1⟩ ⟨hj, hvl, hvg, hg1, hevs⟩
  refine J.conv (by (try simp only [nl, stepsO, valO, nthO, curO, mrg, AV.cellsOf, splice_zero, splice_succ, Nat.reduceAdd]); rfl) ?_
  refine Zs (Zq rfl (QW.lss (.tmp rfl) (.tmp rfl)) (Zn (J.seq ?_)))
  refine J.cond (.tmp rfl) (fun c1 => ?_) (fun c1 => ?_)
  · skip
    have hlt : j < l.length := by simpa [SetT.css_length] using c1
    refine Zk (J.seq (J.block (Zs (Zq rfl (QW.index_sl sl73 ty82 rfl (.tmp rfl) (.tmp rfl) (by first | rfl | omega | (simp; done)) (by exact SetT.css_getE _ hlt)) ?_))))
    refine Zq rfl (by first | exact QW.load_ref ty82 (.tmp rfl) rfl rfl | exact QW.load_ref ty82 (.tmp rfl) (take_at0 (SetT.cs_length _ _) rfl) (SetT.cs_length _ _)) ?_
    refine JL.alloc z82 rfl rfl fun b6 => ?_
    first | refine JL.store_boxF 0 ty82 (.tmp rfl) rfl (.tmp rfl) (by first | rfl | assumption) rfl rfl rfl ?_ | refine JL.store_boxF 0 ty82 (.tmp rfl) rfl (.tmp rfl) (by first | rfl | assumption) rfl (SetT.cs_length _ _) rfl ?_ | refine JL.store_boxF 0 ty82 (.tmp rfl) rfl (.tmp rfl) (by first | rfl | assumption) (SetT.cs_length _ _) rfl rfl ?_ | refine JL.store_boxF 0 ty82 (.tmp rfl) rfl (.tmp rfl) (by first | rfl | assumption) (SetT.cs_length _ _) (SetT.cs_length _ _) rfl ?_ | refine JL.store_box 0 ty82 (.tmp rfl) rfl (.tmp rfl) (by first | rfl | assumption) rfl rfl rfl rfl ?_ | refine JL.store_box 0 ty82 (.tmp rfl) rfl (.tmp rfl) (by first | rfl | assumption) (SetT.cs_length _ _) rfl rfl rfl ?_
    refine Zn (J.region_lit (Zq rfl (QW.move (.tmp rfl)) (Zq rfl (QW.move (.tmp rfl)) (Zq rfl (QW.field_ptr fo82_1 (.tmp rfl) rfl) (Zq rfl (QW.load_box 0 ty79 (.tmp rfl) rfl SetT.at1 xl) ?_)))))
    refine JL.callPF [.k, .p] gofn63 rfl Lent.nil (fun _ => (.cons (.tmp rfl) (.cons (.tmp rfl) .nil))) (reval16_ok (e := l[j].ex) (s := s) (f := g1) Xc.self (hw _ (List.getElem_mem hlt)).ex (hf _ (List.getElem_mem hlt)) hs hg1) (.inl rfl) (fun k21 x21 o21 h21 => ?_) (fun k21 => ?_)
    rotate_left
    · skip
      refine blkQ.p (thenQ.p (thenQ.p (blkQ.p (thenQ.p ?_))))
      exact ⟨_, selP [.k, .k] _, _, rfl, rfl, sel_perm [.k, .k] _, StR.er (setsE_er (hevs.trans (evs_badS hlt (er_of k21)))) k21⟩
    obtain ⟨v21, f21, hv21, rfl, rfl⟩ := h21
    refine Zq rfl (QW.buildSlice (idx := [0]) (xs := [V.cs true v21]) sl24 el26 z26 rfl (.cons (.tmp rfl) .nil) rfl rfl rfl rfl rfl (by exact fillOne vl) rfl (allOne vl) rfl) ?_
    refine JL.append 2 sl24 el26 rfl (.tmp rfl) rfl (srcA_sl sl24 (.tmp rfl)) (by rw [V.css_length]; show (_ + 1) * 80 ≤ _; unfold reach; omega) rfl fun v23 => ?_
    refine Zq rfl (QW.assign (.tmp rfl)) (JL.nil (blkQ.n (thenQ.n ?_)))
    rw [css_snocF]
    refine J.region_lit (Zq rfl (QW.add (.tmp rfl) .const (by first | exact w64n (by first | rfl | omega | (simp; done)) (by omega) | exact w64 (by omega) | rfl)) ?_)
    refine Zq rfl (QW.move (.tmp rfl)) (Zn ?_)
    rw [evs_stepS hlt hv21] at hevs
    obtain ⟨hgv, hfv⟩ := ev_okF (hw _ (List.getElem_mem hlt)).ex (hf _ (List.getElem_mem hlt)) hs hg1 hv21
    exact ⟨⟨j + 1, v23, vs ++ [v21], f21⟩, ⟨hlt, by simp [hvl], fun z hz => (List.mem_append.1 hz).elim (hvg z) (fun h => by rw [List.mem_singleton.1 h]; exact hgv), hfv, hevs⟩, by show l.length - (j + 1) < l.length - j; omega, Wk.re (.cons rfl lr (.cons rfl lr (.cons rfl lr (.cons rfl lr (.cons rfl lr (.cons rfl lr .nil)))))) (Reown.dropN 1 _ rfl) (fun _ h => by first | exact h | simp [h])⟩
  have hge : l.length ≤ j := by simpa [SetT.css_length] using c1
  rw [List.drop_of_length_le (by simpa using hge), evs_done] at hevs
  refine J.exit (thenQ.x (thenQ.x (blkQ.hit (thenQ.n (J.seq (J.closeArr 1 rfl (by rw [V.css_length]; show _ * 80 ≤ _; unfold reach; omega) rfl (fun z hz => by simp only [mb, fps_cons, fps_nil, Own.fp, List.append_nil, List.mem_singleton] at hz; subst hz; simp [mb, fps_cons, Own.fp]) ?_))))))
  refine J.region_lit (Zq rfl (QW.move (.tmp rfl)) (Zq rfl (by first | exact QW.len_slE sl73 (.tmp rfl) wl | exact QW.len_slE sl73 (.tmp rfl) (SetT.css_length _ _) | exact QW.len_slE sl73 (.tmp rfl) (StT.css_length _) | exact QW.len_sl sl73 (.tmp rfl) | exact QW.len_nil sl73 (.tmp rfl)) ?_))
  refine Zq rfl (QW.move .const) (Zn (J.block (J.loopK (ι := Nat × V) [0, 4, 25, 26] (fun ⟨i, st⟩ => [(27, .c (.int .i64 (i : Int)))]) (fun ⟨i, st⟩ oo => List.set oo 0 (mb b { s with st := st } g1)) (fun ⟨i, st⟩ => i ≤ l.length ∧ st.good ∧ putsE s.st (l.zip vs) = putsE st ((l.zip vs).drop i)) (fun ⟨i, st⟩ => l.length - i) ⟨0, s.st⟩ (⟨Nat.zero_le _, hs.st, rfl⟩) (Wk.re (.cons rfl lr (.cons rfl lr (.cons rfl lr (.cons rfl lr (.cons rfl lr .nil))))) (Reown.refl _) (fun _ h => by first | exact h | simp [h])) ?_)))
  intro ⟨i, st⟩ ⟨hi, hst, hput⟩
  refine J.conv (by (try simp only [nl, stepsO, valO, nthO, curO, mrg, AV.cellsOf, splice_zero, splice_succ, Nat.reduceAdd]); rfl) ?_
  refine Zs (Zq rfl (QW.lss (.tmp rfl) (.tmp rfl)) (Zn (J.seq ?_)))
  refine J.cond (.tmp rfl) (fun c2 => ?_) (fun c2 => ?_)
  · skip
    have hlt : i < l.length := by simpa [SetT.css_length] using c2
    have hlv : i < vs.length := by omega
    refine Zk (J.seq (J.block (Zs (Zq rfl (QW.move (.tmp rfl)) (Zq rfl (QW.index_sl sl73 ty82 rfl (.tmp rfl) (.tmp rfl) (by first | rfl | omega | (simp; done)) (by exact SetT.css_getE _ hlt)) ?_)))))
    refine Zq rfl (by first | exact QW.load_ref ty82 (.tmp rfl) rfl rfl | exact QW.load_ref ty82 (.tmp rfl) (take_at0 (SetT.cs_length _ _) rfl) (SetT.cs_length _ _)) ?_
    refine JL.alloc z82 rfl rfl fun b8 => Zq rfl (QW.assign (.tmp rfl)) ?_
    first | refine JL.store_boxF 0 ty82 (.tmp rfl) rfl (.tmp rfl) (by first | rfl | assumption) rfl rfl rfl ?_ | refine JL.store_boxF 0 ty82 (.tmp rfl) rfl (.tmp rfl) (by first | rfl | assumption) rfl (SetT.cs_length _ _) rfl ?_ | refine JL.store_boxF 0 ty82 (.tmp rfl) rfl (.tmp rfl) (by first | rfl | assumption) (SetT.cs_length _ _) rfl rfl ?_ | refine JL.store_boxF 0 ty82 (.tmp rfl) rfl (.tmp rfl) (by first | rfl | assumption) (SetT.cs_length _ _) (SetT.cs_length _ _) rfl ?_ | refine JL.store_box 0 ty82 (.tmp rfl) rfl (.tmp rfl) (by first | rfl | assumption) rfl rfl rfl rfl ?_ | refine JL.store_box 0 ty82 (.tmp rfl) rfl (.tmp rfl) (by first | rfl | assumption) (SetT.cs_length _ _) rfl rfl rfl ?_
    refine Zn (J.seq (J.regionX mixed (Zf 0 [] rfl (fun _ => QW.move (.tmp rfl)) (Zf 1 [33] rfl (fun _ => QW.nil_ptr (.tmp rfl)) (Zf 2 [34] rfl (fun _ => QW.field_ptr fo119_0 (.tmp rfl) rfl) (Zf 3 [35] rfl (fun _ => QW.field_ptr fo117_0 (.tmp rfl) rfl) (Zo 4 1 [36] rfl (fun _ ho_ => QW.load_box 1 ty26 (.tmp rfl) ho_ (mb_at 0) vl) (Zf 5 [] rfl (fun _ => QW.field_ptr fo82_0 (.tmp rfl) rfl) (Zo 6 0 [38] rfl (fun _ ho_ => QW.load_box1 0 ty9 (.tmp rfl) ho_ rfl) ?_)))))))))
    refine Zf 7 [39] rfl (fun _ => QW.build (idx := [0, 1]) pl66 z66 rfl (.cons .const (.cons (.tmp rfl) .nil)) rfl rfl rfl rfl) (Zf 8 [40] rfl (fun _ => QW.buildSlice (idx := [0]) (xs := StT.css [⟨true, l[i].key, 0⟩]) sl67 el66 z66 rfl (.cons (.tmp rfl) .nil) rfl rfl rfl rfl rfl rfl rfl rfl rfl) (Zf 9 [] rfl (fun _ => QW.move (Ev.le (.tmp rfl) (.fact (by simp) (.refl (.sl true false eV (V.css true vs)))))) ?_))
    refine Zf 10 [] rfl (fun _ => QW.move (.tmp rfl)) (Zf 11 [42, 43] rfl (fun _ => QW.index_sl sl24 ty26 rfl (.tmp rfl) (.tmp rfl) (by first | rfl | omega | (simp; done)) (by exact V.css_getE _ hlv)) ?_)
    refine Zf 12 [44] rfl (fun _ => by first | exact QW.load_ref ty26 (.tmp rfl) rfl rfl | exact QW.load_ref ty26 (.tmp rfl) (take_at0 vl rfl) vl) ?_
    refine Zf 13 [37, 41, 45] rfl (fun _ => QW.call gofn64 (.cons (.tmp rfl) (.cons (.tmp rfl) (.cons (Ev.le (.tmp rfl) (V.le_tf _)) .nil))) (set_ok (fr := false) (v := st) (x := vs[i]) (p := [⟨true, l[i].key, 0⟩]) Vc.self Vc.self hst.wf (hvg _ (List.getElem_mem hlv)).wf (step_wf ⟨(hw _ (List.getElem_mem hlt)).key, show (-9223372036854775808 : Int) ≤ 0 ∧ (0 : Int) ≤ 9223372036854775807 by decide⟩))) ?_
    refine Zf 14 [46] rfl (fun _ => QW.move (.tmp rfl)) (Zf 15 [32] rfl (fun _ => QW.extract (.tmp rfl) rfl) (Zf 16 [32] rfl (fun _ => QW.extract (.tmp rfl) rfl) (JX.a 17 rfl (AllocOp.mk z26 rfl) rfl rfl rfl rfl rfl (JX.one 18 [true, false, true, true, true, true, true, true, true, true, true, true, true, true, true, true, true, true] rfl (by kernel_rfl) (by kernel_rfl) rfl rfl (by kernel_rfl) rfl fun bs18_ pe_ ex_ => ?_))))
    refine JL.conv (by (try simp only [vlF, bxF, tkM, lvM, Flt.val, Flt.bx, nx, nl, stepsO, valO, nthO, curO, mrg, AV.cellsOf, splice_zero, splice_succ, Nat.reduceAdd]); rfl) ?_
    first | refine JL.store_boxF 2 ty26 (.tmp rfl) rfl (.tmp rfl) (by first | rfl | assumption) rfl rfl rfl ?_ | refine JL.store_boxF 2 ty26 (.tmp rfl) rfl (.tmp rfl) (by first | rfl | assumption) rfl vl rfl ?_ | refine JL.store_boxF 2 ty26 (.tmp rfl) rfl (.tmp rfl) (by first | rfl | assumption) vl rfl rfl ?_ | refine JL.store_boxF 2 ty26 (.tmp rfl) rfl (.tmp rfl) (by first | rfl | assumption) vl vl rfl ?_ | refine JL.store_box 2 ty26 (.tmp rfl) rfl (.tmp rfl) (by first | rfl | assumption) rfl rfl rfl rfl ?_ | refine JL.store_box 2 ty26 (.tmp rfl) rfl (.tmp rfl) (by first | rfl | assumption) vl rfl rfl rfl ?_
    refine JL.nil ?_
    refine thenQ.n ⟨[], _, rfl, rfl, rfl, rfl, rfl, Reown.tkN 3 rfl, trivial, ⟨trivial, trivial⟩, ?_⟩
    refine JX.conv (S' := [18, 17, 15, 14, 13, 12, 11, 10, 9, 8, 7, 6, 5, 4, 3, 2, 1, 0]) rfl (by (try simp only [lvM]); rfl) (by (try simp only [vlF, bxF, tkM, lvM, Flt.val, Flt.bx, nx, nl, stepsO, valO, nthO, curO, mrg, AV.cellsOf, splice_zero, splice_succ, Nat.reduceAdd]); rfl) ?_
    refine Zf 19 [48] rfl (fun _ => QW.assign (.tmp rfl)) (JX.fin (by kernel_rfl) (by kernel_rfl) fun bs_ => ?_)
    refine QX.conv (by (try simp only [vlF, bxF, tkM, lvM, Flt.val, Flt.bx, nx, nl, stepsO, valO, nthO, curO, mrg, AV.cellsOf, splice_zero, splice_succ, Nat.reduceAdd]); rfl) ?_
    refine thenQ.n (J.seq (Zs (Zq rfl (QW.move (.tmp rfl)) (Zq rfl (QW.neq (.tmp rfl) .const) (Zn ?_)))))
    refine J.cond (.tmp rfl) (fun c3 => ?_) (fun c3 => ?_)
    · skip
      have hb : ¬ (st.setv [⟨true, l[i].key, 0⟩] vs[i]).2 = 0 := by simpa using c3
      refine J.region_lit (Zq rfl (QW.mkIface ⟨_, Tryz.underlying33, by intro ms h; cases h⟩ .const) ?_)
      refine JL.panic (.tmp rfl) (thenQ.p (blkQ.p (thenQ.p (thenQ.p (blkQ.p ?_)))))
      exact ⟨_, selP [.k, .k, .k] _, _, rfl, rfl, sel_perm [.k, .k, .k] _, StR.er (c := 84) (setsE_no hevs (hput.trans (by rw [zip_drop hlt hlv, put_bad hb]))) (by decide)⟩
    have hg : (st.setv [⟨true, l[i].key, 0⟩] vs[i]).2 = 0 := by simpa using c3
    refine Zk (J.region_lit (Zq rfl (QW.move (.tmp rfl)) (Zq rfl (by first | exact QW.load_box 2 ty26 (.tmp rfl) rfl rfl rfl | exact QW.load_box 2 ty26 (.tmp rfl) rfl (take_at vl rfl) vl) ?_)))
    refine Zq rfl (QW.nil_ptr (.tmp rfl)) (Zq rfl (QW.field_ptr fo119_0 (.tmp rfl) rfl) (Zq rfl (QW.field_ptr fo117_0 (.tmp rfl) rfl) (JL.store_box 1 ty26 (.tmp rfl) rfl (Ev.le (.tmp rfl) (V.le_tf _)) rfl vl (by rw [mb_len]; rfl) mb_setst rfl ?_)))
    refine JL.nil (blkQ.n (thenQ.n (J.region_lit (Zq rfl (QW.add (.tmp rfl) .const (by first | exact w64n (by first | rfl | omega | (simp; done)) (by omega) | exact w64 (by omega) | rfl)) ?_))))
    refine Zq rfl (QW.move (.tmp rfl)) (Zn ?_)
    rw [zip_drop hlt hlv, put_go hg] at hput
    exact ⟨⟨i + 1, (st.setv [⟨true, l[i].key, 0⟩] vs[i]).1⟩, ⟨hlt, setE_good hst ⟨(hw _ (List.getElem_mem hlt)).key, show (-9223372036854775808 : Int) ≤ 0 ∧ (0 : Int) ≤ 9223372036854775807 by decide⟩ (hvg _ (List.getElem_mem hlv)) (setE_ok hg), hput⟩, by show l.length - (i + 1) < l.length - i; omega, Wk.re (.cons rfl lr (.cons rfl lr (.cons rfl lr (.cons rfl lr (.cons rfl lr .nil))))) (((Reown.drop [_] [_, _]).trans ((Reown.perm (List.Perm.swap _ _ _)).trans (Reown.drop [_] [_])))) (fun _ h => by first | exact h | simp [h])⟩
  have hge2 : l.length ≤ i := by simpa [SetT.css_length] using c2
  exact J.exit (thenQ.x (thenQ.x (blkQ.hit (Zr [.p] (RetEv.none rfl ) rfl (StR.ok (setsE_ok hevs (hput.trans (by rw [List.drop_of_length_le (by simp; omega)]; rfl))))))))
end Go.Proofs.YtmccnmahegbmpaaGreat.J

/- A drawn region that reads a variable and sets it at its end. -/
namespace Go.Proofs.YtmccnmahegbmpaaGreat.J
open Go Go.RowKit
section
variable {P : Program} {E : Ent} {Q : Exit → St → Prop} {n : Nat} {env : List (Nat × AV)} {own : List Own} {F : List (Value × AV)} {D : List Deferred} {ops : Array Oper}
theorem JX.last {S : List Nat} {Φ : List Flt} (i : Nat) {o : Oper} (ho : ops[i]? = some o) (hbk : backB 0 ops.toList = true) (hblk : blkB ops.toList S (Φ.map (·.i)) i = true) (hS : memB i S = false) (hΦ : memB i (Φ.map (·.i)) = false)
    (hlnd : lndB ops.toList o [] (Φ.map (·.i)) = true) (hall : ((List.range ops.size).all fun j => Nat.beq j i || memB j S || memB j (Φ.map (·.i))) = true)
    (h : ∀ bs, JL P E ops [o] ⟨n, vlF bs Φ ++ env, own ++ bxF bs Φ, F, D⟩ (thenQ (fun s => Q .normal s) Q)) : JX P E ops S Φ ⟨n, env, own, F, D⟩ Q := fun hw hF => by
  have hlt : i < ops.size := (Array.getElem?_eq_some_iff.1 ho).1
  intro fuel
  induction fuel with
  | zero =>
    intro L bs A a w hc hcf
    exfalso
    have hi : L.getD i true = false := by
      rw [getD_same (by rw [hcf.size]; exact hlt)]
      exact hcf.no i (fun h => by rw [memB_iff.2 h] at hS; cases hS) fun φ hφ he => by rw [memB_iff.2 (List.mem_map.2 ⟨φ, hφ, he⟩)] at hΦ; cases hΦ
    have := List.countP_eq_zero.1 (Nat.le_zero.1 hc) i (by simpa using hlt)
    simp [hi] at this
  | succ fuel ih =>
    intro L bs A a w hc hcf
    have hundone : L.getD i false = false := hcf.no i (fun h => by rw [memB_iff.2 h] at hS; cases hS) fun φ hφ he => by rw [memB_iff.2 (List.mem_map.2 ⟨φ, hφ, he⟩)] at hΦ; cases hΦ
    refine ⟨fun hr => ?_, fun j hj => ?_⟩
    · exfalso
      have key : ∀ j, j < ops.size → L.getD j false = true := by
        intro j
        induction j using Nat.strongRecOn with
        | _ j ihj =>
          intro hjl
          cases hL : L.getD j false with
          | true => rfl
          | false =>
            exfalso
            obtain ⟨oj, hoj⟩ : ∃ oj, ops[j]? = some oj := ⟨_, Array.getElem?_eq_getElem hjl⟩
            have : j ∈ Region.ready .any ops L := ready_mem hcf.size hoj (by rw [getD_same (by rw [hcf.size]; exact hjl)]; exact hL) fun e he hb => by
              have hon := backB_lt hbk (i := j) (o := oj) (by simpa using hoj) e he hb
              exact ihj e.on (by omega) (by omega)
            rw [hr] at this
            cases this
      rw [key i hlt] at hundone; cases hundone
    · obtain ⟨hjl, oj, hoj, hunj, hdeps⟩ := mem_ready hj
      have hunj' : L.getD j false = false := by rw [← getD_same (by rw [hcf.size]; exact hjl)]; exact hunj
      by_cases hjΦ : ∃ φ ∈ Φ, φ.i = j
      · obtain ⟨φ, hφ, rfl⟩ := hjΦ
        exact hcf.run hw hF hφ hunj' hjl (fun o' ho' => by rw [hoj] at ho'; cases ho'; exact hdeps) fun bs' A' a' w' hcf' => ih _ bs' A' a' w' (cnt_run hcf.size hjl hunj hc) hcf'
      · have hji : j = i := by
          by_cases he : j = i
          · exact he
          · exfalso
            have h1 := List.all_eq_true.1 hall j (by simpa using hjl)
            have h2 : memB j S = false := by
              cases hb : memB j S with
              | false => rfl
              | true => rw [hcf.yes j (memB_iff.1 hb)] at hunj'; cases hunj'
            have h3 : memB j (Φ.map (·.i)) = false := by
              cases hb : memB j (Φ.map (·.i)) with
              | false => rfl
              | true =>
                obtain ⟨φ, hφ, hφi⟩ := List.mem_map.1 (memB_iff.1 hb)
                exact absurd ⟨φ, hφ, hφi⟩ hjΦ
            have h4 : Nat.beq j i = false := by
              cases hb : Nat.beq j i with
              | false => rfl
              | true => exact absurd (Nat.eq_of_beq_eq_true hb) he
            rw [h2, h3, h4] at h1
            simp at h1
        subst hji
        rw [ho] at hoj; cases hoj
        have hland : ∀ φ ∈ Φ, L.getD φ.i false = true := fun φ hφ => lndB_done hcf.clo hdeps _ _ (fun o' h => by cases h) hlnd φ.i (List.mem_map.2 ⟨φ, hφ, rfl⟩)
        have hdn : ∀ z, z < ops.size → z ≠ j → L.getD z false = true := fun z hz hne => by
          have h1 := List.all_eq_true.1 hall z (by simpa using hz)
          rw [Bool.or_eq_true, Bool.or_eq_true] at h1
          rcases h1 with (h1 | h1) | h1
          · exact absurd (Nat.eq_of_beq_eq_true h1) hne
          · exact hcf.yes z (memB_iff.1 h1)
          · obtain ⟨φ, hφ, rfl⟩ := List.mem_map.1 (memB_iff.1 h1)
            exact hland φ hφ
        have hsat0 : SatA E A ⟨n, vlF bs Φ ++ env, own ++ bxF bs Φ, F, D⟩ a w := by
          have h1 := hcf.sat
          rw [exF_done hland] at h1
          refine ⟨h1.size, h1.defers, h1.keep, h1.hp, fun s x hl => ?_, h1.facts⟩
          rcases lk_vlF hl with ⟨φ, hφ, rfl, rfl⟩ | hl
          · exact hcf.val φ hφ (hland φ hφ)
          · exact hcf.sat.env s x hl
        have hl := h bs a w ⟨A, hsat0⟩
        have hK : ∀ a' w', wpListIn (fen E.rd) 0 P ops (lift E (thenQ (fun s => Q .normal s) Q)) [] a' w' → wpAnyIn (fen E.rd) 0 P .any ops (lift E Q) fuel (L.setIfInBounds j true) a' w' := by
          intro a' w' hq
          have hq' : lift E Q .normal a' w' := hq
          have hnil : Region.ready .any ops (L.setIfInBounds j true) = [] := by
            rw [List.eq_nil_iff_forall_not_mem]
            intro z hz
            obtain ⟨hzl, oz, hoz, hun, _⟩ := mem_ready hz
            have hlts : j < L.size := by rw [hcf.size]; exact hlt
            rw [getD_same (by simpa [hcf.size] using hzl), getD_set _ _ _ hlts] at hun
            by_cases hzj : z = j
            · rw [if_pos hzj] at hun; cases hun
            · rw [if_neg hzj, hdn z hzl hzj] at hun; cases hun
          cases fuel with
          | zero => exact ⟨hnil, hq'⟩
          | succ fuel => exact ⟨fun _ => hq', fun z hz => by rw [hnil] at hz; cases hz⟩
        unfold wpOpIn
        simp only [ho]
        unfold wpListIn at hl
        split
        · rename_i hw'
          rw [if_pos hw'] at hl
          exact Oper.wpIn_monoQ (fun ch a w h => lift_q (by intro h; cases h) h) (fun h => by first | exact fun a w => lift_q (by intro h; cases h) (h a w) | exact h) (Oper.wpIn_mono hK hl)
        · rename_i hw'
          rw [if_neg hw'] at hl
          exact ⟨hl.1, hK _ _ hl.2⟩
theorem J.regionK (kp : List Nat) {id : Nat} {l : List Oper} (hm : P.follows .mixedOrders = true) (h : JX P E l.toArray [] [] ⟨n, dropEnv ((dsts l).filter fun k => !kp.any (Nat.beq k)) env, own, F, D⟩ Q) : J P E (.region id l.toArray true) ⟨n, env, own, F, D⟩ Q := fun a w ⟨A, hA⟩ => by
  have h0 : ∀ i, (Array.replicate l.toArray.size false).getD i false = false := fun i => by simp only [Array.getD_eq_getD_getElem?, Array.getElem?_replicate]; split <;> simp
  have hd := hA.drawn
  refine wpIn_region_any hm (h ⟨List.nodup_nil, List.nodup_nil, fun φ h => (by cases h), fun φ h => (by cases h)⟩ (fun φ h => by cases h) l.toArray.size _ (fun _ => 0) A a _ (Nat.le_trans List.countP_le_length (by simp)) ⟨by simp, fun i h => (by cases h), fun i _ _ => h0 i, fun i o _ hL => (by rw [h0] at hL; cases hL), ?_, fun φ h => by cases h⟩)
  have : exF (Array.replicate l.toArray.size false) (fun _ => 0) [] = [] := rfl
  rw [this, List.append_nil]
  exact ⟨hd.size, hd.defers, hd.keep, hd.hp, fun s y hl => hd.env s y (lk_filter (fun k => !(((dsts l).filter fun k => !kp.any (Nat.beq k)).any (Nat.beq k))) env s y hl).1, hd.facts⟩
end
end Go.Proofs.YtmccnmahegbmpaaGreat.J

/- Walks: the runner: what it asks for. -/
namespace Go.Proofs.YtmccnmahegbmpaaGreat.J
open Go Go.RowKit
set_option maxRecDepth 10000
set_option maxHeartbeats 4000000
def joinM (es : List EvT) (r : ER (List EvT)) : ER (List EvT) := match r with
  | .error c => .error c
  | .ok (l, f) => .ok (es ++ l, f)
theorem joinM_nil (r : ER (List EvT)) : r = joinM [] r := by cases r <;> rfl
theorem ems_done (s : ScT) (es : List EvT) (f : Int) : joinM es (emsE s [] f) = .ok (es, f) := by simp [joinM, emsE]
theorem ems_bad1 {l : List EmT} {s : ScT} {j : Nat} {es : List EvT} {g c : Int} (h : j < l.length) (hc : truE (l[j].wh.ev s g) = .error c) : joinM es (emsE s (l.drop j) g) = .error c := by
  rw [List.drop_eq_getElem_cons h, emsE, hc]; rfl
theorem ems_no {l : List EmT} {s : ScT} {j : Nat} {es : List EvT} {g g2 : Int} (h : j < l.length) (hc : truE (l[j].wh.ev s g) = .ok (false, g2)) : joinM es (emsE s (l.drop j) g) = joinM es (emsE s (l.drop (j + 1)) g2) := by
  rw [List.drop_eq_getElem_cons h, emsE, hc]
theorem ems_bad2 {l : List EmT} {s : ScT} {j : Nat} {es : List EvT} {g g2 c : Int} (h : j < l.length) (hc : truE (l[j].wh.ev s g) = .ok (true, g2)) (h2 : l[j].ar.ev s g2 = .error c) : joinM es (emsE s (l.drop j) g) = .error c := by
  rw [List.drop_eq_getElem_cons h, emsE, hc]; simp only []; rw [h2]; rfl
theorem ems_yes {l : List EmT} {s : ScT} {j : Nat} {es : List EvT} {g g2 g3 : Int} {v : V} (h : j < l.length) (hc : truE (l[j].wh.ev s g) = .ok (true, g2)) (h2 : l[j].ar.ev s g2 = .ok (v, g3)) : joinM es (emsE s (l.drop j) g) = joinM (es ++ [⟨l[j].nm, v⟩]) (emsE s (l.drop (j + 1)) g3) := by
  rw [List.drop_eq_getElem_cons h, emsE, hc]; simp only []; rw [h2]; simp only []
  cases emsE s (l.drop (j + 1)) g3 with
  | error c => rfl
  | ok p => obtain ⟨q, f⟩ := p; simp [joinM]
theorem EvT.css_snocT (es : List EvT) (e : EvT) : EvT.css true es ++ [e.cs true] = EvT.css true (es ++ [e]) := by simp [EvT.css]
def EmR (r : ER (List EvT)) (b : Nat) (s : ScT) : Res → List Own → Prop := PanR (errE r = 0) (errV (errE r)) fun x o => ∃ es f', r = .ok (es, f') ∧ x = .sl true false eEv (EvT.css true es) ∧ o = [mb b s f']
theorem EmR.ok {r : ER (List EvT)} {b : Nat} {s : ScT} {es : List EvT} {f' : Int} (h : r = .ok (es, f')) : EmR r b s (.ret (.sl true false eEv (EvT.css true es))) [mb b s f'] := .inl ⟨by rw [h]; rfl, _, rfl, es, f', h, rfl, rfl⟩
theorem EmR.er {r : ER (List EvT)} {b : Nat} {s : ScT} {c : Int} (h : r = .error c) (hc : ¬ c = 0) : EmR r b s (.pan (.iface 33 (.int .i64 c))) [] := .inr ⟨by rw [h]; exact hc, by rw [h]; rfl, rfl⟩
theorem fill_ef {c a0 a1 a2 a3 a4 a5 : AV} {z : List AV} (hz : z.length = 5) : fillA ([(0, 1), (1, 5)].toArray[·]?) [a0, a1, a2, a3, a4, a5] [(0, [c]), (1, z)] = some (c :: z) := by
  have h1 : splice [c, a1, a2, a3, a4, a5] 1 z = c :: z := by
    rw [splice_succ, splice_all (by rw [hz]; rfl)]
  simp [fillA, splice_zero, hz, h1]
theorem remits_ok {l : List EmT} {s : ScT} {f : Int} {b : Nat} {fr : Bool} (h8 : l.length ≤ 8) (hw : ∀ x ∈ l, x.wf) (hf : ∀ x ∈ l, x.wh.Fine ∧ x.ar.Fine) (hs : s.good) (h0 : okF f) :
    AC Tryz.prog 56 [mb b s f] [pb b, .sl fr false eEm (EmT.css fr l)] (EmR (emsE s l f) b s) := by
  refine AC.of_J Tryz.func56 rfl Tryz.ntmps56 rfl fun w0 A0 => ?_
  refine Zs (Zq rfl (QW.assign .const) (Zn (J.seq (Zs (Zq rfl (QW.move (.tmp rfl)) (Zq rfl (by first | exact QW.len_slE sl74 (.tmp rfl) wl | exact QW.len_slE sl74 (.tmp rfl) (EmT.css_length _ _) | exact QW.len_slE sl74 (.tmp rfl) (EvT.css_length _ _) | exact QW.len_sl sl74 (.tmp rfl) | exact QW.len_nil sl74 (.tmp rfl)) ?_))))))
  refine Zq rfl (QW.move .const) (Zn (J.block (J.reown (Reown.nilArrE eEv _) (J.loopK (ι := Nat × Value × List EvT × Int) [0, 9, 10] (fun ⟨j, v, es, g1⟩ => [(11, .c (.int .i64 (j : Int))), (4, .c v)]) (fun ⟨j, v, es, g1⟩ oo => List.set (List.set oo 1 (.arr v eEv (EvT.css true es))) 0 (mb b s g1)) (fun ⟨j, v, es, g1⟩ => j ≤ l.length ∧ es.length ≤ j ∧ okF g1 ∧ emsE s l f = joinM es (emsE s (l.drop j) g1)) (fun ⟨j, v, es, g1⟩ => l.length - j) ⟨0, .slice none 0 0, [], f⟩ (⟨Nat.zero_le _, Nat.le_refl _, h0, joinM_nil _⟩) (Wk.re (.cons rfl lr (.cons rfl lr (.cons rfl lr (.cons rfl lr (.cons rfl lr .nil))))) (Reown.refl _) (fun _ h => by first | exact h | simp [h])) ?_))))
  intro ⟨j, v, es, g1⟩ ⟨hj, hel, hg1, hem⟩
  refine J.conv (by (try simp only [nl, stepsO, valO, nthO, curO, mrg, AV.cellsOf, splice_zero, splice_succ, Nat.reduceAdd]); rfl) ?_
  refine Zs (Zq rfl (QW.lss (.tmp rfl) (.tmp rfl)) (Zn (J.seq ?_)))
  refine J.cond (.tmp rfl) (fun c1 => ?_) (fun c1 => ?_)
  · skip
    have hlt : j < l.length := by simpa [EmT.css_length] using c1
    refine Zk (J.seq (J.block (Zs (Zq rfl (QW.index_sl sl74 ty86 rfl (.tmp rfl) (.tmp rfl) (by first | rfl | omega | (simp; done)) (by exact EmT.css_getE _ hlt)) ?_))))
    refine Zq rfl (by first | exact QW.load_ref ty86 (.tmp rfl) rfl rfl | exact QW.load_ref ty86 (.tmp rfl) (take_at0 (EmT.cs_length _ _) rfl) (EmT.cs_length _ _)) ?_
    refine JL.alloc z86 rfl rfl fun b6 => ?_
    first | refine JL.store_boxF 0 ty86 (.tmp rfl) rfl (.tmp rfl) (by first | rfl | assumption) rfl rfl rfl ?_ | refine JL.store_boxF 0 ty86 (.tmp rfl) rfl (.tmp rfl) (by first | rfl | assumption) rfl (EmT.cs_length _ _) rfl ?_ | refine JL.store_boxF 0 ty86 (.tmp rfl) rfl (.tmp rfl) (by first | rfl | assumption) (EmT.cs_length _ _) rfl rfl ?_ | refine JL.store_boxF 0 ty86 (.tmp rfl) rfl (.tmp rfl) (by first | rfl | assumption) (EmT.cs_length _ _) (EmT.cs_length _ _) rfl ?_ | refine JL.store_box 0 ty86 (.tmp rfl) rfl (.tmp rfl) (by first | rfl | assumption) rfl rfl rfl rfl ?_ | refine JL.store_box 0 ty86 (.tmp rfl) rfl (.tmp rfl) (by first | rfl | assumption) (EmT.cs_length _ _) rfl rfl rfl ?_
    refine Zn (Zs (Zq rfl (QW.move (.tmp rfl)) (Zq rfl (QW.field_ptr fo86_0 (.tmp rfl) rfl) (Zq rfl (QW.load_box 0 ty79 (.tmp rfl) rfl EmT.at0 xl) ?_))))
    refine JL.callPF [.k, .p] gofn63 rfl Lent.nil (fun _ => (.cons (.tmp rfl) (.cons (.tmp rfl) .nil))) (reval16_ok (e := l[j].wh) (s := s) (f := g1) Xc.self (hw _ (List.getElem_mem hlt)).wh (hf _ (List.getElem_mem hlt)).1 hs hg1) (.inl rfl) (fun k19 x19 o19 h19 => ?_) (fun k19 => ?_)
    rotate_left
    · skip
      refine thenQ.p (blkQ.p (thenQ.p (thenQ.p (blkQ.p (thenQ.p ?_)))))
      exact ⟨_, selP [.k, .k] _, _, rfl, rfl, sel_perm [.k, .k] _, EmR.er (hem.trans (ems_bad1 hlt (truE_er (er_of k19)))) k19⟩
    obtain ⟨v19, f19, hv19, rfl, rfl⟩ := h19
    obtain ⟨hgv, hfv⟩ := ev_okF (hw _ (List.getElem_mem hlt)).wh (hf _ (List.getElem_mem hlt)).1 hs hg1 hv19
    refine Zq rfl (QW.call gofn65 (.cons (.tmp rfl) .nil) (etrue_ok (v := v19) Vc.self hgv.wf)) (Zq rfl (QW.move (.tmp rfl)) (Zq rfl (QW.extract (.tmp rfl) rfl) (Zq rfl (QW.extract (.tmp rfl) rfl) (Zq rfl (QW.assign (.tmp rfl)) (Zq rfl (QW.assign (.tmp rfl)) (Zn (J.seq (Zs (Zq rfl (QW.move (.tmp rfl)) ?_)))))))))
    refine Zq rfl (QW.neq (.tmp rfl) .const) (Zn ?_)
    refine J.cond (.tmp rfl) (fun c2 => ?_) (fun c2 => ?_)
    · skip
      have hk : ¬ v19.kind = 1 := fun h => by rw [show trueT v19 = (v19.bits == 1, 0) from if_neg (fun h2 => h2.elim (fun h3 => h3 h) (fun h3 => h3 hgv.err))] at c2; simp at c2
      have h81 : trueT v19 = (false, 81) := if_pos (.inl hk)
      rw [h81]
      refine J.region_lit (Zq rfl (QW.move (.tmp rfl)) (Zq rfl (QW.mkIface ⟨_, Tryz.underlying33, by intro ms h; cases h⟩ (.tmp rfl)) ?_))
      refine JL.panic (.tmp rfl) (thenQ.p (blkQ.p (thenQ.p (thenQ.p (blkQ.p (thenQ.p ?_))))))
      exact ⟨_, selP [.k, .k, .k] _, _, rfl, rfl, sel_perm [.k, .k, .k] _, EmR.er (c := 81) (hem.trans (ems_bad1 hlt (truE_no hv19 hk))) (by decide)⟩
    have hk : v19.kind = 1 := Decidable.byContradiction fun h => by rw [show trueT v19 = (false, 81) from if_pos (.inl h)] at c2; simp at c2
    have ht1 : trueT v19 = (v19.bits == 1, 0) := if_neg (fun h2 => h2.elim (fun h3 => h3 hk) (fun h3 => h3 hgv.err))
    rw [ht1]
    have htr := truE_yes hv19 hk
    refine Zk (Zs (Zq rfl (QW.move (.tmp rfl)) (Zn ?_)))
    refine J.cond (.tmp rfl) (fun c3 => ?_) (fun c3 => ?_)
    · skip
      have hb1 : (v19.bits == 1) = true := c3
      rw [hb1] at htr
      refine J.regionK [4] mixed (Zf 0 [] rfl (fun _ => QW.move (.tmp rfl)) (Zf 1 [] rfl (fun _ => QW.field_ptr fo86_1 (.tmp rfl) rfl) (Zo 2 0 [29] rfl (fun _ ho_ => QW.load_box1 0 ty9 (.tmp rfl) ho_ EmT.at4) (Zf 3 [] rfl (fun _ => QW.move (.tmp rfl)) (Zf 4 [] rfl (fun _ => QW.field_ptr fo86_2 (.tmp rfl) rfl) (Zo 5 0 [32] rfl (fun _ ho_ => QW.load_box 0 ty79 (.tmp rfl) ho_ EmT.at5 xl) (JX.one 6 [true, true, true, false, false, false] rfl (by kernel_rfl) (by kernel_rfl) rfl rfl (by kernel_rfl) rfl fun bs6_ pe_ ex_ => ?_)))))))
      refine JL.conv (by (try simp only [vlF, bxF, tkM, lvM, Flt.val, Flt.bx, nx, nl, stepsO, valO, nthO, curO, mrg, AV.cellsOf, splice_zero, splice_succ, Nat.reduceAdd]); rfl) ?_
      refine JL.callPF [.k, .p] gofn63 rfl Lent.nil (fun _ => (.cons (.tmp rfl) (.cons (.tmp rfl) .nil))) (reval16_ok (e := l[j].ar) (s := s) (f := f19) Xc.self (hw _ (List.getElem_mem hlt)).ar (hf _ (List.getElem_mem hlt)).2 hs hfv) (.inl rfl) (fun k34 x34 o34 h34 => ?_) (fun k34 => ?_)
      rotate_left
      · skip
        refine thenQ.p (blkQ.p (thenQ.p (thenQ.p (blkQ.p (thenQ.p ?_)))))
        exact ⟨_, selP [.k, .k] _, _, rfl, rfl, sel_perm [.k, .k] _, EmR.er (hem.trans (ems_bad2 hlt htr (er_of k34))) k34⟩
      obtain ⟨v34, f34, hv34, rfl, rfl⟩ := h34
      refine JL.nil ?_
      refine thenQ.n ⟨[_], _, rfl, rfl, rfl, rfl, rfl, Reown.mrgN 3 rfl rfl, ⟨rfl, rfl⟩, ⟨rfl, ⟨trivial, ⟨trivial, trivial⟩⟩⟩, ?_⟩
      refine JX.conv (S' := [6, 5, 4, 3]) rfl (by (try simp only [lvM]); rfl) (by (try simp only [vlF, bxF, tkM, lvM, Flt.val, Flt.bx, nx, nl, stepsO, valO, nthO, curO, mrg, AV.cellsOf, splice_zero, splice_succ, Nat.reduceAdd]); rfl) ?_
      refine Zf 7 [30, 34] rfl (fun _ => QW.build (idx := [0, 1]) pl51 z51 rfl (.cons (.tmp rfl) (.cons (.tmp rfl) .nil)) rfl rfl rfl (by exact fill_ef vl)) ?_
      refine Zf 8 [35] rfl (fun _ => QW.buildSlice (idx := [0]) (xs := [EvT.cs true ⟨l[j].nm, v34⟩]) (zs := [AV.agg (EvT.cs true ⟨l[j].nm, v34⟩)]) sl32 el51 z51 rfl (.cons (.tmp rfl) .nil) rfl rfl rfl rfl rfl (by exact fillOne (EvT.cs_length _ _)) rfl (allOne (EvT.cs_length _ _)) rfl) ?_
      refine JX.one 9 [true, true, true, true, true] rfl (by kernel_rfl) (by kernel_rfl) rfl rfl (by kernel_rfl) rfl fun bs9_ pe_ ex_ => ?_
      refine JL.conv (by (try simp only [vlF, bxF, tkM, lvM, Flt.val, Flt.bx, nx, nl, stepsO, valO, nthO, curO, mrg, AV.cellsOf, splice_zero, splice_succ, Nat.reduceAdd]); rfl) ?_
      refine JL.append 2 sl32 el51 rfl (.tmp rfl) rfl (srcA_sl sl32 (.tmp rfl)) (by rw [EvT.css_length]; show (_ + 1) * 96 ≤ _; unfold reach; omega) rfl fun v37 => ?_
      refine JL.nil ?_
      refine thenQ.n ⟨[_], _, rfl, rfl, rfl, rfl, rfl, Reown.tkN 3 rfl, ⟨rfl, rfl⟩, trivial, ?_⟩
      refine JX.conv (S' := [9, 8, 7, 2, 1, 0, 6, 5, 4, 3]) rfl (by (try simp only [lvM]); rfl) (by (try simp only [vlF, bxF, tkM, lvM, Flt.val, Flt.bx, nx, nl, stepsO, valO, nthO, curO, mrg, AV.cellsOf, splice_zero, splice_succ, Nat.reduceAdd]); rfl) ?_
      refine JX.last 10 rfl (by kernel_rfl) (by kernel_rfl) rfl rfl (by kernel_rfl) (by kernel_rfl) fun bs_ => ?_
      refine JL.conv (by (try simp only [vlF, bxF, tkM, lvM, Flt.val, Flt.bx, nx, nl, stepsO, valO, nthO, curO, mrg, AV.cellsOf, splice_zero, splice_succ, Nat.reduceAdd]); rfl) ?_
      refine Zq rfl (QW.assign (.tmp rfl)) (Zn (blkQ.n (thenQ.n (J.region_lit (Zq rfl (QW.add (.tmp rfl) .const (by first | exact w64n (by first | rfl | omega | (simp; done)) (by omega) | exact w64 (by omega) | rfl)) ?_)))))
      refine Zq rfl (QW.move (.tmp rfl)) (Zn ?_)
      rw [EvT.css_snocT]
      have hfv2 := (ev_okF (hw _ (List.getElem_mem hlt)).ar (hf _ (List.getElem_mem hlt)).2 hs hfv hv34).2
      exact ⟨⟨j + 1, v37, es ++ [⟨l[j].nm, v34⟩], f34⟩, ⟨hlt, by simp; omega, hfv2, hem.trans (ems_yes hlt htr hv34)⟩, by show l.length - (j + 1) < l.length - j; omega, Wk.re (.cons rfl lr (.cons rfl lr (.cons rfl lr (.cons rfl lr (.cons rfl lr .nil))))) (Reown.dropN 1 _ rfl) (fun _ h => by first | exact h | simp [h])⟩
    have hb1 : (v19.bits == 1) = false := by simpa using c3
    rw [hb1] at htr
    refine J.skip (blkQ.n (thenQ.n (J.region_lit (Zq rfl (QW.add (.tmp rfl) .const (by first | exact w64n (by first | rfl | omega | (simp; done)) (by omega) | exact w64 (by omega) | rfl)) ?_))))
    refine Zq rfl (QW.move (.tmp rfl)) (Zn ?_)
    exact ⟨⟨j + 1, v, es, f19⟩, ⟨hlt, by omega, hfv, hem.trans (ems_no hlt htr)⟩, by show l.length - (j + 1) < l.length - j; omega, Wk.re (.cons rfl lr (.cons rfl lr (.cons rfl lr (.cons rfl lr (.cons rfl lr .nil))))) (Reown.dropN 1 _ rfl) (fun _ h => by first | exact h | simp [h])⟩
  have hge : l.length ≤ j := by simpa [EmT.css_length] using c1
  rw [List.drop_of_length_le hge, ems_done] at hem
  refine J.exit (thenQ.x (thenQ.x (blkQ.hit (thenQ.n (J.seq (J.closeArr 1 rfl (by rw [EvT.css_length]; show _ * 96 ≤ _; unfold reach; omega) rfl (fun z hz => by simp only [mb, fps_cons, fps_nil, Own.fp, List.append_nil, List.mem_singleton] at hz; subst hz; simp [mb, fps_cons, Own.fp]) ?_))))))
  exact J.region_lit (Zq rfl (QW.move (.tmp rfl)) (Zq rfl (QW.assign (.tmp rfl)) (Zn (J.ret (Zr [.p] (RetEv.one rfl (REv.tmp rfl (.fact (by simp) lr))) rfl (EmR.ok hem))))))
end Go.Proofs.YtmccnmahegbmpaaGreat.J

/- Walks: a handler runs. -/
namespace Go.Proofs.YtmccnmahegbmpaaGreat.J
open Go Go.RowKit
set_option maxRecDepth 10000
set_option maxHeartbeats 4000000
def outAV (r : V × List EvT × Int) : AV := .tup [.agg (r.1.cs false), .sl false false eEv (EvT.css false r.2.1), .c (.int .i64 r.2.2)]
theorem run_le {F : List (Value × AV)} {k1 k2 : Int} {b1 b2 : Nat} {t1 t2 : Str} {ks1 ks2 : List Str} {is1 is2 : List V} {fr : Bool} :
    Le F (.agg ((V.mk k1 b1 t1 ks1 is1).cs true ++ ((V.mk k2 b2 t2 ks2 is2).cs fr ++ (zV ++ [AV.c (.int .i64 4096)])))) (.agg ((V.mk k1 b1 t1 ks1 is1).cs false ++ (V.mk k2 b2 t2 ks2 is2).cs false ++ V.nil.cs false ++ [AV.c (.int .i64 4096)])) :=
  .aggL (by
    rw [List.append_assoc, List.append_assoc]
    exact LeL.append (V.cs_le true false (fun h => by cases h) _) (LeL.append (V.cs_le fr false (fun h => by cases h) _) (LeL.append (.cons (.refl _) (.cons (.refl _) (.cons (.refl _) (.cons (.nil false false _) (.cons (.nil false false _) .nil))))) (.cons (.refl _) .nil))))
theorem runE_er1 {h : HdT} {st arg : V} {c : Int} (h1 : setsE ⟨st, arg, .nil⟩ h.sets 4096 = .error c) : h.runE st arg = .error c := by
  unfold setsE at h1; unfold HdT.runE valsE
  cases he : EX.evs (h.sets.map SetT.ex) ⟨st, arg, .nil⟩ 4096 with
  | error d => rw [he] at h1; simpa using h1
  | ok p =>
    obtain ⟨vs, f⟩ := p
    rw [he] at h1
    simp only [] at h1 ⊢
    cases hp : putsE st (h.sets.zip vs) with
    | error d => rw [hp] at h1; simpa using h1
    | ok v => rw [hp] at h1; cases h1
theorem runE_go {h : HdT} {st arg v : V} {f : Int} (h1 : setsE ⟨st, arg, .nil⟩ h.sets 4096 = .ok (v, f)) : h.runE st arg = (match emsE ⟨v, arg, .nil⟩ h.ems f with
      | .error e => .error e
      | .ok (l, _) => .ok (v, l)) := by
  unfold setsE at h1; unfold HdT.runE valsE
  cases he : EX.evs (h.sets.map SetT.ex) ⟨st, arg, .nil⟩ 4096 with
  | error d => rw [he] at h1; cases h1
  | ok p =>
    obtain ⟨vs, g⟩ := p
    rw [he] at h1
    simp only [] at h1 ⊢
    cases hp : putsE st (h.sets.zip vs) with
    | error d => rw [hp] at h1; cases h1
    | ok w => rw [hp] at h1; cases h1; rfl
theorem runE_er2 {h : HdT} {st arg v : V} {f c : Int} (h1 : setsE ⟨st, arg, .nil⟩ h.sets 4096 = .ok (v, f)) (h2 : emsE ⟨v, arg, .nil⟩ h.ems f = .error c) : h.runE st arg = .error c := by rw [runE_go h1, h2]
theorem runE_ok {h : HdT} {st arg v : V} {f g : Int} {l : List EvT} (h1 : setsE ⟨st, arg, .nil⟩ h.sets 4096 = .ok (v, f)) (h2 : emsE ⟨v, arg, .nil⟩ h.ems f = .ok (l, g)) : h.runE st arg = .ok (v, l) := by rw [runE_go h1, h2]
theorem puts_good : ∀ {l : List SetT} {vs : List V} {v w : V}, (∀ x ∈ l, x.wf) → (∀ x ∈ vs, x.good) → v.good → putsE v (l.zip vs) = .ok w → w.good
  | [], vs, v, w, _, _, hv, h => by cases vs <;> (simp [putsE] at h; exact h ▸ hv)
  | s :: l, [], v, w, _, _, hv, h => by simp [putsE] at h; exact h ▸ hv
  | s :: l, x :: vs, v, w, hl, hvs, hv, h => by
    rw [List.zip_cons_cons, putsE] at h
    split at h
    · rename_i he
      exact puts_good (fun y hy => hl y (by simp [hy])) (fun y hy => hvs y (by simp [hy])) (setE_good hv ⟨(hl s (by simp)).key, show (-9223372036854775808 : Int) ≤ 0 ∧ (0 : Int) ≤ 9223372036854775807 by decide⟩ (hvs x (by simp)) (setE_ok he)) h
    · cases h
theorem setsE_good {l : List SetT} {s : ScT} {f g : Int} {v : V} (hw : ∀ x ∈ l, x.wf) (hf : ∀ x ∈ l, x.ex.Fine) (hs : s.good) (h0 : okF f) (h : setsE s l f = .ok (v, g)) : v.good ∧ okF g := by
  unfold setsE at h
  cases he : EX.evs (l.map SetT.ex) s f with
  | error d => rw [he] at h; cases h
  | ok p =>
    obtain ⟨vs, f1⟩ := p
    rw [he] at h
    simp only [] at h
    cases hp : putsE s.st (l.zip vs) with
    | error d => rw [hp] at h; cases h
    | ok w =>
      rw [hp] at h; cases h
      obtain ⟨h1, h2, h3⟩ := EX.evs_good (l.map SetT.ex) s f (fun x hx => by obtain ⟨y, hy, rfl⟩ := List.mem_map.1 hx; exact ⟨hf y hy, (hw y hy).ex⟩) hs h0.1 vs g he
      exact ⟨puts_good hw h1 hs.st hp, h3, by have := h0.2; omega⟩
theorem out_er {r : Except Int (V × List EvT)} {c : Int} (h : r = .error c) : outE r = (.nil, [], c) := by rw [h]; rfl
theorem out_ok {r : Except Int (V × List EvT)} {v : V} {l : List EvT} (h : r = .ok (v, l)) : outE r = (v, l, 0) := by rw [h]; rfl
theorem hrun1_ret (a b c : Nat) (zs ys : List AV) (z : Int) : DC Tryz.prog 54 [ibox c z, .box b ys, .box a zs] [.c (.pointer (some ⟨a, 0, none⟩)), .c (.pointer (some ⟨b, 0, none⟩)), .c (.pointer (some ⟨c, 0, none⟩))] .returning fun r u' o => r = .ret (.tup []) ∧ u' = .returning ∧ o = [ibox c z, .box b ys, .box a zs] := by
  refine DC.of_JD Tryz.func54 rfl Tryz.ntmps54 rfl fun w0 A0 => ?_
  refine JD.seq (JD.region_recover rfl rfl (.inl ⟨rfl, rfl, rfl⟩) rfl (Zq rfl (QW.assert_nil ⟨_, Tryz.underlying33, by intro ms h; cases h⟩ zeroErrno (.tmp rfl)) ?_))
  refine Zq rfl (QW.move (.tmp rfl)) (Zq rfl (QW.extract (.tmp rfl) rfl) (Zq rfl (QW.extract (.tmp rfl) rfl) (Zq rfl (QW.assign (.tmp rfl)) (Zq rfl (QW.assign (.tmp rfl)) (JL.nil ?_)))))
  refine thenD.nn ?_
  refine JD.of_J rfl (Zs (Zq rfl (QW.move (.tmp rfl)) (Zn ?_)))
  refine J.cond (.tmp rfl) (fun c1 => absurd c1 (by simp)) (fun c1 => ?_)
  refine J.skip ?_
  exact ⟨_, selP [.p, .p, .p] _, _, RetEv.none rfl , rfl, sel_perm [.p, .p, .p] _, ⟨rfl, rfl, rfl⟩⟩
theorem hrun1_pan (a b c : Nat) (zs : List AV) (hz : zs.length = 5) (y : AV) (z e : Int) : DC Tryz.prog 54 [ibox c z, .box b [y], .box a zs] [.c (.pointer (some ⟨a, 0, none⟩)), .c (.pointer (some ⟨b, 0, none⟩)), .c (.pointer (some ⟨c, 0, none⟩))] (.panicking [{ v := errV e, recovered := false }]) fun r u' o => r = .ret (.tup []) ∧ u' = .panicking [{ v := errV e, recovered := true }] ∧ o = [ibox c e, .box b [.c (.slice none 0 0)], .box a zV] := by
  refine DC.of_JD Tryz.func54 rfl Tryz.ntmps54 rfl fun w0 A0 => ?_
  refine JD.seq (JD.region_recover rfl rfl (.inr ⟨[], rfl, rfl⟩) rfl (Zq rfl (QW.assert_hit ⟨_, Tryz.underlying33, by intro ms h; cases h⟩ (.tmp rfl)) ?_))
  refine Zq rfl (QW.move (.tmp rfl)) (Zq rfl (QW.extract (.tmp rfl) rfl) (Zq rfl (QW.extract (.tmp rfl) rfl) (Zq rfl (QW.assign (.tmp rfl)) (Zq rfl (QW.assign (.tmp rfl)) (JL.nil ?_)))))
  refine thenD.nn ?_
  refine JD.of_J rfl (Zs (Zq rfl (QW.move (.tmp rfl)) (Zn ?_)))
  refine J.cond (.tmp rfl) (fun c1 => ?_) (fun c1 => absurd c1 (by simp))
  refine J.region_lit (Zq rfl (QW.build (idx := []) pl26 z26 rfl .nil rfl rfl rfl rfl) (Zq rfl (QW.move (.tmp rfl)) (JL.store_box 2 ty26 (.tmp rfl) rfl (.tmp rfl) rfl rfl (by rw [hz]; rfl) (splice_all (by rw [hz]; rfl)) rfl ?_)))
  refine JL.store_box 1 ty32 (.tmp rfl) rfl .const (by first | rfl | assumption) rfl rfl rfl rfl ?_
  refine JL.store_box 0 ty33 (.tmp rfl) rfl (.tmp rfl) (by first | rfl | assumption) rfl rfl rfl rfl ?_
  refine JL.nil ?_
  exact ⟨_, selP [.p, .p, .p] _, _, RetEv.none rfl , rfl, sel_perm [.p, .p, .p] _, ⟨rfl, rfl, rfl⟩⟩
theorem hrun_ok {fr fr1 fr2 : Bool} {h : HdT} {st arg : V} (hw : h.wf) (h8 : h.sets.length ≤ 8 ∧ h.ems.length ≤ 8) (hf : (∀ x ∈ h.sets, x.ex.Fine) ∧ ∀ x ∈ h.ems, x.wh.Fine ∧ x.ar.Fine) (hst : st.good) (harg : arg.good) :
    Fn Tryz.prog 39 [.agg (h.cs fr), .agg (st.cs fr1), .agg (arg.cs fr2)] (outAV (outE (h.runE st arg))) := by
  obtain ⟨on, sets, ems⟩ := h
  obtain ⟨-, -, hsw, -, hew⟩ := hw
  obtain ⟨hs8, he8⟩ := h8
  obtain ⟨hsf, hef⟩ := hf
  simp only at hsw hew hs8 he8 hsf hef
  have hsg : ScT.good ⟨st, arg, .nil⟩ := ⟨hst, harg, V.good_nil⟩
  obtain ⟨ka, ua, ta, va, ia⟩ := st
  obtain ⟨kc, uc, tc, vc, ic⟩ := arg
  refine AC.of_JD Tryz.func39 rfl Tryz.ntmps39 rfl fun w0 A0 => ?_
  refine Zs (JL.box_agg (.tmp rfl) rfl fun b3 => JL.box_agg (.tmp rfl) rfl fun b4 => JL.box_agg (.tmp rfl) rfl fun b5 => JL.alloc z26 rfl rfl fun b6 => JL.alloc z32 rfl rfl fun b7 => JL.alloc z33 rfl rfl fun b8 => Zn (Zs (Zq rfl (QW.mkFunc .nil (.cons (.tmp rfl) (.cons (.tmp rfl) (.cons (.tmp rfl) .nil)))) ?_)))
  refine JL.defer rfl (.tmp rfl) (Zn (J.seq (J.regionX mixed (Zo 0 4 [] rfl (fun _ ho_ => by first | exact QW.load_box 4 ty26 (.tmp rfl) ho_ rfl rfl | exact QW.load_box 4 ty26 (.tmp rfl) ho_ (take_at vl rfl) vl) ?_))))
  refine Zf 1 [11] rfl (fun _ => QW.call gofn21 (.cons (.tmp rfl) .nil) (clone_rd (fr := fr1) (v := .mk ka ua ta va ia) Vc.self hst.wf)) (Zo 2 3 [] rfl (fun _ ho_ => by first | exact QW.load_box 3 ty26 (.tmp rfl) ho_ rfl rfl | exact QW.load_box 3 ty26 (.tmp rfl) ho_ (take_at vl rfl) vl) ?_)
  refine Zf 3 [12, 13] rfl (fun _ => QW.build (idx := [0, 1]) pl117 z117 rfl (.cons (.tmp rfl) (.cons (.tmp rfl) .nil)) rfl rfl rfl rfl) (Zf 4 [14] rfl (fun _ => QW.build (idx := [0, 1]) pl119 z119 rfl (.cons (.tmp rfl) (.cons .const .nil)) rfl rfl rfl rfl) (JX.one 5 [true, true, true, true, true] rfl (by kernel_rfl) (by kernel_rfl) rfl rfl (by kernel_rfl) rfl fun bs5_ pe_ ex_ => ?_))
  refine JL.conv (by (try simp only [vlF, bxF, tkM, lvM, Flt.val, Flt.bx, nx, nl, stepsO, valO, nthO, curO, mrg, AV.cellsOf, splice_zero, splice_succ, Nat.reduceAdd]); rfl) ?_
  refine JL.box_agg (Ev.le (.tmp rfl) run_le) rfl fun b16 => JL.nil ?_
  refine thenQ.n ⟨[_], _, rfl, rfl, rfl, rfl, rfl, Reown.tkN 7 rfl, ⟨rfl, rfl⟩, trivial, ?_⟩
  refine JX.conv (S' := [5, 4, 3, 2, 1, 0]) rfl (by (try simp only [lvM]); rfl) (by (try simp only [vlF, bxF, tkM, lvM, Flt.val, Flt.bx, nx, nl, stepsO, valO, nthO, curO, mrg, AV.cellsOf, splice_zero, splice_succ, Nat.reduceAdd]); rfl) ?_
  refine Zf 6 [16] rfl (fun _ => QW.assign (.tmp rfl)) (JX.fin (by kernel_rfl) (by kernel_rfl) fun bs_ => ?_)
  refine QX.conv (by (try simp only [vlF, bxF, tkM, lvM, Flt.val, Flt.bx, nx, nl, stepsO, valO, nthO, curO, mrg, AV.cellsOf, splice_zero, splice_succ, Nat.reduceAdd]); rfl) ?_
  refine thenQ.n (Zs (Zq rfl (QW.move (.tmp rfl)) (Zq rfl (QW.field_ptr fo76_1 (.tmp rfl) rfl) (Zq rfl (QW.load_box1 6 ty73 (.tmp rfl) rfl rfl) ?_))))
  refine JL.callPF [.p] gofn55 rfl Lent.nil (fun _ => (.cons (.tmp rfl) (.cons (.tmp rfl) .nil))) (rsets_ok (s := ⟨.mk ka ua ta va ia, .mk kc uc tc vc ic, .nil⟩) (f := 4096) hs8 hsw hsf hsg ⟨by decide, by decide⟩) (.inl rfl) (fun k20 x20 o20 h20 => ?_) (fun k20 => ?_)
  rotate_left
  · skip
    refine thenQ.p ?_
    exact ⟨_, _, [], [_, _, _], selP [.p, .p, .p] _, _, rfl, rfl, gofn54, sel_perm [.p, .p, .p] _, DC.mono (hrun1_pan _ _ _ _ rfl _ _ _) fun r u' o ⟨h1, h2, h3⟩ => by subst h1 h2 h3; exact ⟨⟨_, rfl⟩, rfl, _, [], _, (by first | exact RetEv.three rfl (REv.cell 2 ty26 rfl rfl rfl rfl (.aggL (.cons lr (.cons lr (.cons lr (.cons (.nil false false _) (.cons (.nil false false _) .nil))))))) (REv.cell1 1 ty32 rfl rfl rfl (.nil false false _)) (REv.cell1 0 ty33 rfl rfl rfl lr) | exact RetEv.three rfl (REv.cell 2 ty26 rfl rfl (take_at vl rfl) vl (.aggL (.cons lr (.cons lr (.cons lr (.cons (.nil false false _) (.cons (.nil false false _) .nil))))))) (REv.cell1 1 ty32 rfl rfl rfl (.nil false false _)) (REv.cell1 0 ty33 rfl rfl rfl lr)), List.Perm.refl _, (congrArg (fun r => Res.ret (outAV r)) (out_er (runE_er1 (er_of k20))).symm), rfl⟩⟩
  obtain ⟨v20, f20, hv20, rfl, rfl⟩ := h20
  refine Zn (Zs ?_)
  have hgv := setsE_good hsw hsf hsg ⟨by decide, by decide⟩ hv20
  refine Zq rfl (QW.move (.tmp rfl)) (Zq rfl (QW.field_ptr fo76_2 (.tmp rfl) rfl) (Zq rfl (QW.load_box1 6 ty74 (.tmp rfl) rfl rfl) ?_))
  refine JL.callPF [.p] gofn56 rfl Lent.nil (fun _ => (.cons (.tmp rfl) (.cons (.tmp rfl) .nil))) (remits_ok (s := ⟨v20, .mk kc uc tc vc ic, .nil⟩) (f := f20) he8 hew hef ⟨hgv.1, harg, V.good_nil⟩ hgv.2) (.inl rfl) (fun k24 x24 o24 h24 => ?_) (fun k24 => ?_)
  rotate_left
  · skip
    refine thenQ.p ?_
    exact ⟨_, _, [], [_, _, _], selP [.p, .p, .p] _, _, rfl, rfl, gofn54, sel_perm [.p, .p, .p] _, DC.mono (hrun1_pan _ _ _ _ rfl _ _ _) fun r u' o ⟨h1, h2, h3⟩ => by subst h1 h2 h3; exact ⟨⟨_, rfl⟩, rfl, _, [], _, (by first | exact RetEv.three rfl (REv.cell 2 ty26 rfl rfl rfl rfl (.aggL (.cons lr (.cons lr (.cons lr (.cons (.nil false false _) (.cons (.nil false false _) .nil))))))) (REv.cell1 1 ty32 rfl rfl rfl (.nil false false _)) (REv.cell1 0 ty33 rfl rfl rfl lr) | exact RetEv.three rfl (REv.cell 2 ty26 rfl rfl (take_at vl rfl) vl (.aggL (.cons lr (.cons lr (.cons lr (.cons (.nil false false _) (.cons (.nil false false _) .nil))))))) (REv.cell1 1 ty32 rfl rfl rfl (.nil false false _)) (REv.cell1 0 ty33 rfl rfl rfl lr)), List.Perm.refl _, (congrArg (fun r => Res.ret (outAV r)) (out_er (runE_er2 hv20 (er_of k24))).symm), rfl⟩⟩
  obtain ⟨es24, f24, he24, rfl, rfl⟩ := h24
  refine JL.store_box 2 ty32 (.tmp rfl) rfl (.tmp rfl) (by first | rfl | assumption) rfl rfl rfl rfl ?_
  refine Zn (J.seq (J.regionX mixed (Zf 0 [] rfl (fun _ => QW.move (.tmp rfl)) (Zf 1 [25] rfl (fun _ => QW.nil_ptr (.tmp rfl)) (Zf 2 [26] rfl (fun _ => QW.field_ptr fo119_0 (.tmp rfl) rfl) (Zf 3 [27] rfl (fun _ => QW.field_ptr fo117_0 (.tmp rfl) rfl) (Zo 4 0 [28] rfl (fun _ ho_ => QW.load_box 0 ty26 (.tmp rfl) ho_ (mb_at 0) vl) (Zo 5 2 [] rfl (fun _ ho_ => QW.load_box1 2 ty32 (.tmp rfl) ho_ rfl) (JX.one 6 [false, true, true, true, true, true] rfl (by kernel_rfl) (by kernel_rfl) rfl rfl (by kernel_rfl) rfl fun bs6_ pe_ ex_ => ?_)))))))))
  refine JL.conv (by (try simp only [vlF, bxF, tkM, lvM, Flt.val, Flt.bx, nx, nl, stepsO, valO, nthO, curO, mrg, AV.cellsOf, splice_zero, splice_succ, Nat.reduceAdd]); rfl) ?_
  first | refine JL.store_boxF 3 ty26 (.tmp rfl) rfl (.tmp rfl) (by first | rfl | assumption) rfl rfl rfl ?_ | refine JL.store_boxF 3 ty26 (.tmp rfl) rfl (.tmp rfl) (by first | rfl | assumption) rfl vl rfl ?_ | refine JL.store_boxF 3 ty26 (.tmp rfl) rfl (.tmp rfl) (by first | rfl | assumption) vl rfl rfl ?_ | refine JL.store_boxF 3 ty26 (.tmp rfl) rfl (.tmp rfl) (by first | rfl | assumption) vl vl rfl ?_ | refine JL.store_box 3 ty26 (.tmp rfl) rfl (.tmp rfl) (by first | rfl | assumption) rfl rfl rfl rfl ?_ | refine JL.store_box 3 ty26 (.tmp rfl) rfl (.tmp rfl) (by first | rfl | assumption) vl rfl rfl rfl ?_
  refine JL.nil ?_
  refine thenQ.n ⟨[], _, rfl, rfl, rfl, rfl, rfl, Reown.tkN 7 rfl, trivial, ⟨rfl, trivial⟩, ?_⟩
  refine JX.conv (S' := [6, 4, 3, 2, 1, 0]) rfl (by (try simp only [lvM]); rfl) (by (try simp only [vlF, bxF, tkM, lvM, Flt.val, Flt.bx, nx, nl, stepsO, valO, nthO, curO, mrg, AV.cellsOf, splice_zero, splice_succ, Nat.reduceAdd]); rfl) ?_
  refine JX.one 7 [true] rfl (by kernel_rfl) (by kernel_rfl) rfl rfl (by kernel_rfl) rfl fun bs7_ pe_ ex_ => ?_
  refine JL.conv (by (try simp only [vlF, bxF, tkM, lvM, Flt.val, Flt.bx, nx, nl, stepsO, valO, nthO, curO, mrg, AV.cellsOf, splice_zero, splice_succ, Nat.reduceAdd]); rfl) ?_
  refine JL.store_box 2 ty32 (.tmp rfl) rfl (.tmp rfl) (by first | rfl | assumption) rfl rfl rfl rfl ?_
  refine JL.nil ?_
  refine thenQ.n ⟨[], _, rfl, rfl, rfl, rfl, rfl, Reown.tkN 7 rfl, trivial, trivial, ?_⟩
  refine JX.conv (S' := [7, 5, 6, 4, 3, 2, 1, 0]) rfl (by (try simp only [lvM]); rfl) (by (try simp only [vlF, bxF, tkM, lvM, Flt.val, Flt.bx, nx, nl, stepsO, valO, nthO, curO, mrg, AV.cellsOf, splice_zero, splice_succ, Nat.reduceAdd]); rfl) ?_
  refine JX.one 8 [] rfl (by kernel_rfl) (by kernel_rfl) rfl rfl (by kernel_rfl) rfl fun bs8_ pe_ ex_ => ?_
  refine JL.conv (by (try simp only [vlF, bxF, tkM, lvM, Flt.val, Flt.bx, nx, nl, stepsO, valO, nthO, curO, mrg, AV.cellsOf, splice_zero, splice_succ, Nat.reduceAdd]); rfl) ?_
  refine JL.store_box 1 ty33 (.tmp rfl) rfl .const (by first | rfl | assumption) rfl rfl rfl rfl ?_
  refine JL.nil ?_
  refine thenQ.n ⟨[], _, rfl, rfl, rfl, rfl, rfl, Reown.tkN 7 rfl, trivial, trivial, ?_⟩
  refine JX.conv (S' := [8, 7, 5, 6, 4, 3, 2, 1, 0]) rfl (by (try simp only [lvM]); rfl) (by (try simp only [vlF, bxF, tkM, lvM, Flt.val, Flt.bx, nx, nl, stepsO, valO, nthO, curO, mrg, AV.cellsOf, splice_zero, splice_succ, Nat.reduceAdd]); rfl) ?_
  refine JX.fin (by kernel_rfl) (by kernel_rfl) fun bs_ => ?_
  refine QX.conv (by (try simp only [vlF, bxF, tkM, lvM, Flt.val, Flt.bx, nx, nl, stepsO, valO, nthO, curO, mrg, AV.cellsOf, splice_zero, splice_succ, Nat.reduceAdd]); rfl) ?_
  refine thenQ.n (J.ret ?_)
  exact ⟨_, _, [], [_, _, _], selP [.k, .p, .p, .p] _, _, rfl, rfl, gofn54, sel_perm [.k, .p, .p, .p] _, DC.mono (hrun1_ret _ _ _ _ _ _) fun r u' o ⟨h1, h2, h3⟩ => by subst h1 h2 h3; exact ⟨⟨_, rfl⟩, rfl, _, [], _, (by first | exact RetEv.three rfl (REv.cell 2 ty26 rfl rfl rfl rfl lr) (REv.cell1 1 ty32 rfl rfl rfl (events_le true false false (fun h => by cases h) _)) (REv.cell1 0 ty33 rfl rfl rfl lr) | exact RetEv.three rfl (REv.cell 2 ty26 rfl rfl (take_at vl rfl) vl lr) (REv.cell1 1 ty32 rfl rfl rfl (events_le true false false (fun h => by cases h) _)) (REv.cell1 0 ty33 rfl rfl rfl lr)), List.Perm.refl _, (congrArg (fun r => Res.ret (outAV r)) (out_ok (runE_ok hv20 he24)).symm), rfl⟩⟩
end Go.Proofs.YtmccnmahegbmpaaGreat.J

/- Walks: what an event does; events, one after another. -/
namespace Go.Proofs.YtmccnmahegbmpaaGreat.J
open Go Go.RowKit
set_option maxRecDepth 10000
set_option maxHeartbeats 4000000
def fSt1 (b : Nat) : Value := .func (.func 35) #[] #[fptr b]
def fSt2 (b : Nat) : Value := .func (.func 36) #[] #[fptr b]
def fSt3 (b : Nat) : Value := .func (.func 38) #[] #[fptr b]
theorem Reown.stp (a b c d e : Own) : Reown [a, b, c, d, e] [a, d, .grp [b, c, e]] :=
  ⟨fun x => by simp only [fps_cons, fps_nil, fp_grp, List.count_append, List.count_nil]; omega, fun w A h => by
    simp only [List.forall_mem_cons, ok_grp, List.not_mem_nil, false_implies, implies_true, and_true] at h ⊢
    exact ⟨h.1, h.2.2.2.1, h.2.1, h.2.2.1, h.2.2.2.2⟩⟩
theorem Reown.stq (a b c d e : Own) : Reown [a, d, .grp [b, c, e]] [a, d, b, c, e] := Reown.cons (Reown.cons (Reown.open [b, c, e] []))
theorem step_clos {b4 b5 b15 : Nat} {st : V} {e : EvT} {fr fr2 : Bool} (hst : st.wf) (he : e.wf) : ∀ i (h : i < [fSt1 b4, fSt2 b4, fName b15, fSt3 b5].length) (h2 : i < [st.err, if st.kind = 5 then 0 else 81, nameE e.name, e.arg.err].length), CloS (.grp [.box b5 (e.cs fr2), .box b4 (st.cs fr), .box b15 [.c (str e.name)]]) [fSt1 b4, fSt2 b4, fName b15, fSt3 b5][i] [st.err, if st.kind = 5 then 0 else 81, nameE e.name, e.arg.err][i]
  | 0, _, _ => ⟨_, [fptr b4], rfl, gofn35, clo_st1 (l1 := [.box b5 (e.cs fr2)]) (l2 := [.box b15 [.c (str e.name)]]) hst⟩
  | 1, _, _ => ⟨_, [fptr b4], rfl, gofn36, clo_st2 (l1 := [.box b5 (e.cs fr2)]) (l2 := [.box b15 [.c (str e.name)]])⟩
  | 2, _, _ => ⟨_, [fptr b15], rfl, gofn52, clo_name (l1 := [.box b5 (e.cs fr2), .box b4 (st.cs fr)]) (l2 := [])⟩
  | 3, _, _ => ⟨_, [fptr b5], rfl, gofn38, clo_st3 (l1 := []) (l2 := [.box b4 (st.cs fr), .box b15 [.c (str e.name)]]) he⟩
theorem hIdx_in : ∀ (l : List HdT) (s : Str) (i : Int), hIdx l s i = -1 ∨ ∃ m, m < l.length ∧ hIdx l s i = i + (m : Int)
  | [], s, i => .inl rfl
  | h :: r, s, i => by
    unfold hIdx
    split
    · exact .inr ⟨0, by simp, by simp⟩
    · rcases hIdx_in r s (i + 1) with h | ⟨m, hm, h⟩
      · exact .inl h
      · exact .inr ⟨m + 1, by simpa using hm, by rw [h]; push_cast; omega⟩
theorem at_in (p : PgT) (s : Str) : p.at s = -1 ∨ ∃ m, m < p.hs.length ∧ p.at s = (m : Int) := by
  rcases hIdx_in p.hs s 0 with h | ⟨m, hm, h⟩
  · exact .inl h
  · exact .inr ⟨m, hm, by rw [PgT.at, h]; omega⟩
theorem HdT.ok_of {h : HdT} (he : h.err = 0) : (h.sets.length ≤ 8 ∧ h.ems.length ≤ 8) ∧ (∀ x ∈ h.sets, x.ex.Fine) ∧ ∀ x ∈ h.ems, x.wh.Fine ∧ x.ar.Fine := by
  unfold HdT.err at he
  split at he
  · cases he
  · rename_i h8
    have hz := fstE_all he
    refine ⟨by omega, fun x hx => ?_, fun x hx => ⟨?_, ?_⟩⟩
    · exact EX.fine_of (hz _ (by unfold HdT.es; simp only [List.mem_cons, List.mem_append, List.mem_flatMap]; exact .inr (.inl ⟨x, hx, by simp [SetT.es]⟩)))
    · exact EX.fine_of (hz _ (by unfold HdT.es; simp only [List.mem_cons, List.mem_append, List.mem_flatMap]; exact .inr (.inr ⟨x, hx, by simp [EmT.es]⟩)))
    · exact EX.fine_of (hz _ (by unfold HdT.es; simp only [List.mem_cons, List.mem_append, List.mem_flatMap]; exact .inr (.inr ⟨x, hx, by simp [EmT.es]⟩)))
theorem PgT.ok_of {p : PgT} (he : p.err = 0) : p.init.err = 0 ∧ p.init.kind = 5 ∧ p.hs.length ≤ 16 ∧ ∀ h ∈ p.hs, h.err = 0 := by
  unfold PgT.err at he
  split at he
  · rename_i h; exact absurd he h
  · rename_i h1
    split at he
    · cases he
    · rename_i h2
      split at he
      · cases he
      · rename_i h3
        split at he
        · rename_i h; exact absurd he h
        · rename_i h4
          exact ⟨by simpa using h1, by simpa using h2, by omega, fun h hh => fstE_all (by simpa using h4) _ (List.mem_map.2 ⟨h, hh, rfl⟩)⟩
theorem step_1 {p : PgT} {st : V} {e : EvT} (h : ¬ fstE [st.err, if st.kind = 5 then 0 else 81, nameE e.name, e.arg.err] = 0) : stepE p st e = .error (fstE [st.err, if st.kind = 5 then 0 else 81, nameE e.name, e.arg.err]) := if_pos h
theorem step_2 {p : PgT} {st : V} {e : EvT} (h : fstE [st.err, if st.kind = 5 then 0 else 81, nameE e.name, e.arg.err] = 0) (h2 : p.at e.name < 0) : stepE p st e = .error 71 := by
  unfold stepE; rw [if_neg (fun h1 => h1 h), if_pos h2]
theorem step_3 {p : PgT} {st : V} {e : EvT} {m : Nat} (h : fstE [st.err, if st.kind = 5 then 0 else 81, nameE e.name, e.arg.err] = 0) (hm : m < p.hs.length) (h2 : p.at e.name = (m : Int)) : stepE p st e = p.hs[m].runE st e.arg := by
  unfold stepE; rw [if_neg (fun h1 => h1 h), if_neg (by omega), h2, Int.toNat_natCast, List.getElem?_eq_getElem hm]
theorem pstep_ok {fr fr1 fr2 : Bool} {p : PgT} {st : V} {e : EvT} (hw : p.wf) (hp : p.err = 0) (hst : st.wf) (he : e.wf) :
    Fn Tryz.prog 22 [.agg (p.cs fr), .agg (st.cs fr1), .agg (e.cs fr2)] (outAV (outE (stepE p st e))) := by
  have hq := PgT.ok_of hp
  refine AC.of_J Tryz.func22 rfl Tryz.ntmps22 rfl fun w0 A0 => ?_
  refine Zs (JL.box_agg (.tmp rfl) rfl fun b3 => JL.box_agg (.tmp rfl) rfl fun b4 => JL.box_agg (.tmp rfl) rfl fun b5 => JL.alloc z26 rfl rfl fun b6 => Zq rfl (QW.assign .const) (Zq rfl (QW.assign .const) (Zn (Zs (Zq rfl (QW.mkFunc .nil (.cons (.tmp rfl) .nil)) ?_)))))
  refine Zq rfl (QW.mkFunc .nil (.cons (.tmp rfl) .nil)) (Zq rfl (QW.field_ptr fo47_0 (.tmp rfl) rfl) (Zq rfl (QW.load_box1 1 ty9 (.tmp rfl) rfl EvT.at0) (JL.callRF [] gofn37 rfl Lent.nil (fun _ => (.cons (.tmp rfl) .nil)) (redname_ok _) (.inl rfl) fun x15 o15 h15 => ?_)))
  obtain ⟨b15, rfl, rfl⟩ := h15
  refine Zq rfl (QW.mkFunc .nil (.cons (.tmp rfl) .nil)) (Zq rfl (QW.buildSlice (idx := [0, 1, 2, 3]) (xs := [[.c (fSt1 b4)], [.c (fSt2 b4)], [.c (fName b15)], [.c (fSt3 b5)]]) sl111 el94 z94 rfl (.cons (.tmp rfl) (.cons (.tmp rfl) (.cons (.tmp rfl) (.cons (.tmp rfl) .nil)))) rfl rfl rfl rfl rfl rfl rfl rfl rfl) (JL.reown (Reown.stp _ _ _ _ _) (JL.callRF [.k, .k, .p] gofn34 rfl Lent.nil (fun _ => (.cons (.tmp rfl) .nil)) (checks_ok (fr := true) (cl := true) (fs := [fSt1 b4, fSt2 b4, fName b15, fSt3 b5]) (es := [st.err, if st.kind = 5 then 0 else 81, nameE e.name, e.arg.err]) rfl (step_clos hst he) (by show 4 * 8 ≤ reach; decide)) (.inl rfl) fun x18 o18 h18 => ?_)))
  obtain ⟨rfl, rfl⟩ := h18
  refine Zq rfl (QW.assign (.tmp rfl)) (Zn (J.seq (J.seq (J.reown (Reown.stq _ _ _ _ _) (J.region_lit (Zq rfl (QW.move (.tmp rfl)) (Zq rfl (QW.neq (.tmp rfl) .const) (Zn ?_))))))))
  refine J.cond (.tmp rfl) (fun c1 => ?_) (fun c1 => ?_)
  · skip
    have hbad : ¬ fstE [st.err, if st.kind = 5 then 0 else 81, nameE e.name, e.arg.err] = 0 := by simpa using c1
    refine Zs (Zq rfl (QW.build (idx := []) pl26 z26 rfl .nil rfl rfl rfl rfl) (Zq rfl (QW.move (.tmp rfl)) ?_))
    first | refine JL.store_boxF 0 ty26 (.tmp rfl) rfl (.tmp rfl) (by first | rfl | assumption) rfl rfl rfl ?_ | refine JL.store_boxF 0 ty26 (.tmp rfl) rfl (.tmp rfl) (by first | rfl | assumption) rfl vl rfl ?_ | refine JL.store_boxF 0 ty26 (.tmp rfl) rfl (.tmp rfl) (by first | rfl | assumption) vl rfl rfl ?_ | refine JL.store_boxF 0 ty26 (.tmp rfl) rfl (.tmp rfl) (by first | rfl | assumption) vl vl rfl ?_ | refine JL.store_box 0 ty26 (.tmp rfl) rfl (.tmp rfl) (by first | rfl | assumption) rfl rfl rfl rfl ?_ | refine JL.store_box 0 ty26 (.tmp rfl) rfl (.tmp rfl) (by first | rfl | assumption) vl rfl rfl rfl ?_
    exact Zq rfl (QW.assign .const) (Zq rfl (QW.assign (.tmp rfl)) (Zn (J.ret (thenQ.r (Zr [.k, .k, .k, .k, .k] (RetEv.three rfl (by first | exact REv.cell 0 ty26 rfl rfl rfl rfl (.aggL (.cons lr (.cons lr (.cons lr (.cons (.nil false false _) (.cons (.nil false false _) .nil)))))) | exact REv.cell 0 ty26 rfl rfl (take_at vl rfl) vl (.aggL (.cons lr (.cons lr (.cons lr (.cons (.nil false false _) (.cons (.nil false false _) .nil))))))) (REv.tmp rfl (.nil false false _)) (REv.tmp rfl lr)) rfl ⟨congrArg (fun r => Res.ret (outAV r)) (out_er (step_1 hbad)).symm, rfl⟩)))))
  have hgo : fstE [st.err, if st.kind = 5 then 0 else 81, nameE e.name, e.arg.err] = 0 := by simpa using c1
  have hz := fstE_all hgo
  refine Zk (Zs (Zq rfl (by first | exact QW.load_box 1 ty38 (.tmp rfl) rfl rfl rfl | exact QW.load_box 1 ty38 (.tmp rfl) rfl (take_at (PgT.cs_length _ _) rfl) (PgT.cs_length _ _)) ?_))
  refine Zq rfl (QW.field_ptr fo47_0 (.tmp rfl) rfl) (Zq rfl (QW.load_box1 2 ty9 (.tmp rfl) rfl EvT.at0) (Zq rfl (QW.call gofn31 (.cons (.tmp rfl) (.cons (.tmp rfl) .nil)) (handles_ok hw e.name)) (Zq rfl (QW.assign (.tmp rfl)) (Zn (J.seq (Zs (Zq rfl (QW.move (.tmp rfl)) (Zq rfl (QW.lss (.tmp rfl) .const) (Zn ?_)))))))))
  refine J.cond (.tmp rfl) (fun c2 => ?_) (fun c2 => ?_)
  · skip
    have hneg : p.at e.name < 0 := by simpa using c2
    refine Zs (Zq rfl (QW.build (idx := []) pl26 z26 rfl .nil rfl rfl rfl rfl) ?_)
    first | refine JL.store_boxF 0 ty26 (.tmp rfl) rfl (.tmp rfl) (by first | rfl | assumption) rfl rfl rfl ?_ | refine JL.store_boxF 0 ty26 (.tmp rfl) rfl (.tmp rfl) (by first | rfl | assumption) rfl vl rfl ?_ | refine JL.store_boxF 0 ty26 (.tmp rfl) rfl (.tmp rfl) (by first | rfl | assumption) vl rfl rfl ?_ | refine JL.store_boxF 0 ty26 (.tmp rfl) rfl (.tmp rfl) (by first | rfl | assumption) vl vl rfl ?_ | refine JL.store_box 0 ty26 (.tmp rfl) rfl (.tmp rfl) (by first | rfl | assumption) rfl rfl rfl rfl ?_ | refine JL.store_box 0 ty26 (.tmp rfl) rfl (.tmp rfl) (by first | rfl | assumption) vl rfl rfl rfl ?_
    exact Zq rfl (QW.assign .const) (Zq rfl (QW.assign .const) (Zn (J.ret (thenQ.r (Zr [.k, .k, .k, .k, .k] (RetEv.three rfl (by first | exact REv.cell 0 ty26 rfl rfl rfl rfl (.aggL (.cons lr (.cons lr (.cons lr (.cons (.nil false false _) (.cons (.nil false false _) .nil)))))) | exact REv.cell 0 ty26 rfl rfl (take_at vl rfl) vl (.aggL (.cons lr (.cons lr (.cons lr (.cons (.nil false false _) (.cons (.nil false false _) .nil))))))) (REv.tmp rfl (.nil false false _)) (REv.tmp rfl lr)) rfl ⟨congrArg (fun r => Res.ret (outAV r)) (out_er (step_2 hgo hneg)).symm, rfl⟩)))))
  have hpos : ¬ p.at e.name < 0 := by simpa using c2
  obtain ⟨m, hm, hat⟩ := (at_in p e.name).resolve_left (by omega)
  rw [hat]
  refine Zk (J.seq (J.regionX mixed (Zf 0 [] rfl (fun _ => QW.field_ptr fo38_1 (.tmp rfl) rfl) (Zo 1 1 [30] rfl (fun _ ho_ => QW.load_box1 1 ty36 (.tmp rfl) ho_ PgT.at5) (Zf 2 [] rfl (fun _ => QW.move (.tmp rfl)) (Zf 3 [31, 32] rfl (fun _ => QW.index_sl sl36 ty76 rfl (.tmp rfl) (.tmp rfl) (by first | rfl | omega | (simp; done)) (by exact HdT.css_getE _ hm)) ?_))))))
  refine Zf 4 [33] rfl (fun _ => by first | exact QW.load_ref ty76 (.tmp rfl) rfl rfl | exact QW.load_ref ty76 (.tmp rfl) (take_at0 rfl rfl) rfl) ?_
  refine Zo 5 3 [] rfl (fun _ ho_ => by first | exact QW.load_box 3 ty26 (.tmp rfl) ho_ rfl rfl | exact QW.load_box 3 ty26 (.tmp rfl) ho_ (take_at vl rfl) vl) ?_
  refine Zf 6 [] rfl (fun _ => QW.field_ptr fo47_1 (.tmp rfl) rfl) (Zo 7 2 [36] rfl (fun _ ho_ => QW.load_box 2 ty26 (.tmp rfl) ho_ EvT.at1 vl) (Zf 8 [34, 35, 37] rfl (fun _ => QW.call gofn39 (.cons (.tmp rfl) (.cons (.tmp rfl) (.cons (.tmp rfl) .nil))) (hrun_ok (hw.hs _ (List.getElem_mem hm)) (HdT.ok_of (hq.2.2.2 _ (List.getElem_mem hm))).1 (HdT.ok_of (hq.2.2.2 _ (List.getElem_mem hm))).2 ⟨hst, hz _ (by simp)⟩ ⟨he.arg, hz _ (by simp)⟩)) ?_))
  refine Zf 9 [38] rfl (fun _ => QW.extract (.tmp rfl) rfl) (Zf 10 [38] rfl (fun _ => QW.extract (.tmp rfl) rfl) (Zf 11 [38] rfl (fun _ => QW.extract (.tmp rfl) rfl) (JX.one 12 [true, true, true, true, true, true, true, true, true, true, true, true] rfl (by kernel_rfl) (by kernel_rfl) rfl rfl (by kernel_rfl) rfl fun bs12_ pe_ ex_ => ?_)))
  refine JL.conv (by (try simp only [vlF, bxF, tkM, lvM, Flt.val, Flt.bx, nx, nl, stepsO, valO, nthO, curO, mrg, AV.cellsOf, splice_zero, splice_succ, Nat.reduceAdd]); rfl) ?_
  first | refine JL.store_boxF 0 ty26 (.tmp rfl) rfl (.tmp rfl) (by first | rfl | assumption) rfl rfl rfl ?_ | refine JL.store_boxF 0 ty26 (.tmp rfl) rfl (.tmp rfl) (by first | rfl | assumption) rfl vl rfl ?_ | refine JL.store_boxF 0 ty26 (.tmp rfl) rfl (.tmp rfl) (by first | rfl | assumption) vl rfl rfl ?_ | refine JL.store_boxF 0 ty26 (.tmp rfl) rfl (.tmp rfl) (by first | rfl | assumption) vl vl rfl ?_ | refine JL.store_box 0 ty26 (.tmp rfl) rfl (.tmp rfl) (by first | rfl | assumption) rfl rfl rfl rfl ?_ | refine JL.store_box 0 ty26 (.tmp rfl) rfl (.tmp rfl) (by first | rfl | assumption) vl rfl rfl rfl ?_
  refine JL.nil ?_
  refine thenQ.n ⟨[], _, rfl, rfl, rfl, rfl, rfl, Reown.tkN 5 rfl, trivial, trivial, ?_⟩
  refine JX.conv (S' := [12, 11, 10, 9, 8, 7, 6, 5, 4, 3, 2, 1, 0]) rfl (by (try simp only [lvM]); rfl) (by (try simp only [vlF, bxF, tkM, lvM, Flt.val, Flt.bx, nx, nl, stepsO, valO, nthO, curO, mrg, AV.cellsOf, splice_zero, splice_succ, Nat.reduceAdd]); rfl) ?_
  refine Zf 13 [40] rfl (fun _ => QW.assign (.tmp rfl)) (Zf 14 [41] rfl (fun _ => QW.assign (.tmp rfl)) (JX.fin (by kernel_rfl) (by kernel_rfl) fun bs_ => ?_))
  refine QX.conv (by (try simp only [vlF, bxF, tkM, lvM, Flt.val, Flt.bx, nx, nl, stepsO, valO, nthO, curO, mrg, AV.cellsOf, splice_zero, splice_succ, Nat.reduceAdd]); rfl) ?_
  exact thenQ.n (J.ret (Zr [.k, .k, .k, .k, .k] (RetEv.three rfl (by first | exact REv.cell 0 ty26 rfl rfl rfl rfl lr | exact REv.cell 0 ty26 rfl rfl (take_at vl rfl) vl lr) (REv.tmp rfl lr) (REv.tmp rfl lr)) rfl ⟨congrArg (fun r => Res.ret (outAV r)) (congrArg outE (step_3 hgo hm hat)).symm, rfl⟩))
theorem redstep_ok {fr fr1 fr2 : Bool} {p : PgT} {st : V} {e : EvT} (hw : p.wf) (hst : st.wf) (he : e.wf) : Fn Tryz.prog 15 [.agg (p.cs fr), .agg (st.cs fr1), .agg (e.cs fr2)] (outAV (stepT p st e)) := by
  refine AC.of_J Tryz.func15 rfl Tryz.ntmps15 rfl fun w0 A0 => ?_
  refine Zs (JL.box_agg (.tmp rfl) rfl fun b3 => JL.box_agg (.tmp rfl) rfl fun b4 => JL.box_agg (.tmp rfl) rfl fun b5 => JL.alloc z26 rfl rfl fun b6 => Zq rfl (QW.assign .const) (Zq rfl (QW.assign .const) (Zn (J.seq (Zs ?_)))))
  refine Zq rfl (by first | exact QW.load_box 3 ty38 (.tmp rfl) rfl rfl rfl | exact QW.load_box 3 ty38 (.tmp rfl) rfl (take_at (PgT.cs_length _ _) rfl) (PgT.cs_length _ _)) ?_
  refine Zq rfl (QW.call gofn20 (.cons (.tmp rfl) .nil) (pcheck_ok hw)) (Zq rfl (QW.assign (.tmp rfl)) (Zn (Zs (Zq rfl (QW.move (.tmp rfl)) (Zq rfl (QW.neq (.tmp rfl) .const) (Zn ?_))))))
  refine J.cond (.tmp rfl) (fun c1 => ?_) (fun c1 => ?_)
  · skip
    have hbad : ¬ p.err = 0 := by simpa using c1
    refine Zs (Zq rfl (QW.build (idx := []) pl26 z26 rfl .nil rfl rfl rfl rfl) (Zq rfl (QW.move (.tmp rfl)) ?_))
    first | refine JL.store_boxF 0 ty26 (.tmp rfl) rfl (.tmp rfl) (by first | rfl | assumption) rfl rfl rfl ?_ | refine JL.store_boxF 0 ty26 (.tmp rfl) rfl (.tmp rfl) (by first | rfl | assumption) rfl vl rfl ?_ | refine JL.store_boxF 0 ty26 (.tmp rfl) rfl (.tmp rfl) (by first | rfl | assumption) vl rfl rfl ?_ | refine JL.store_boxF 0 ty26 (.tmp rfl) rfl (.tmp rfl) (by first | rfl | assumption) vl vl rfl ?_ | refine JL.store_box 0 ty26 (.tmp rfl) rfl (.tmp rfl) (by first | rfl | assumption) rfl rfl rfl rfl ?_ | refine JL.store_box 0 ty26 (.tmp rfl) rfl (.tmp rfl) (by first | rfl | assumption) vl rfl rfl rfl ?_
    exact Zq rfl (QW.assign .const) (Zq rfl (QW.assign (.tmp rfl)) (Zn (J.ret (thenQ.r (Zr [.k, .k, .k, .k] (RetEv.three rfl (by first | exact REv.cell 0 ty26 rfl rfl rfl rfl (.aggL (.cons lr (.cons lr (.cons lr (.cons (.nil false false _) (.cons (.nil false false _) .nil)))))) | exact REv.cell 0 ty26 rfl rfl (take_at vl rfl) vl (.aggL (.cons lr (.cons lr (.cons lr (.cons (.nil false false _) (.cons (.nil false false _) .nil))))))) (REv.tmp rfl (.nil false false _)) (REv.tmp rfl lr)) rfl ⟨congrArg (fun r => Res.ret (outAV r)) ((if_pos hbad : stepT p st e = _)).symm, rfl⟩)))))
  have hp : p.err = 0 := by simpa using c1
  refine Zk (Zs (Zq rfl (by first | exact QW.load_box 3 ty38 (.tmp rfl) rfl rfl rfl | exact QW.load_box 3 ty38 (.tmp rfl) rfl (take_at (PgT.cs_length _ _) rfl) (PgT.cs_length _ _)) ?_))
  refine Zq rfl (by first | exact QW.load_box 2 ty26 (.tmp rfl) rfl rfl rfl | exact QW.load_box 2 ty26 (.tmp rfl) rfl (take_at vl rfl) vl) ?_
  refine Zq rfl (by first | exact QW.load_box 1 ty47 (.tmp rfl) rfl rfl rfl | exact QW.load_box 1 ty47 (.tmp rfl) rfl (take_at (EvT.cs_length _ _) rfl) (EvT.cs_length _ _)) ?_
  refine Zq rfl (QW.call gofn22 (.cons (.tmp rfl) (.cons (.tmp rfl) (.cons (.tmp rfl) .nil))) (pstep_ok hw hp hst he)) (Zq rfl (QW.extract (.tmp rfl) rfl) (Zq rfl (QW.extract (.tmp rfl) rfl) (Zq rfl (QW.extract (.tmp rfl) rfl) ?_)))
  first | refine JL.store_boxF 0 ty26 (.tmp rfl) rfl (.tmp rfl) (by first | rfl | assumption) rfl rfl rfl ?_ | refine JL.store_boxF 0 ty26 (.tmp rfl) rfl (.tmp rfl) (by first | rfl | assumption) rfl vl rfl ?_ | refine JL.store_boxF 0 ty26 (.tmp rfl) rfl (.tmp rfl) (by first | rfl | assumption) vl rfl rfl ?_ | refine JL.store_boxF 0 ty26 (.tmp rfl) rfl (.tmp rfl) (by first | rfl | assumption) vl vl rfl ?_ | refine JL.store_box 0 ty26 (.tmp rfl) rfl (.tmp rfl) (by first | rfl | assumption) rfl rfl rfl rfl ?_ | refine JL.store_box 0 ty26 (.tmp rfl) rfl (.tmp rfl) (by first | rfl | assumption) vl rfl rfl rfl ?_
  exact Zq rfl (QW.assign (.tmp rfl)) (Zq rfl (QW.assign (.tmp rfl)) (Zn (J.ret (Zr [.k, .k, .k, .k] (RetEv.three rfl (by first | exact REv.cell 0 ty26 rfl rfl rfl rfl lr | exact REv.cell 0 ty26 rfl rfl (take_at vl rfl) vl lr) (REv.tmp rfl lr) (REv.tmp rfl lr)) rfl ⟨congrArg (fun r => Res.ret (outAV r)) ((if_neg (fun h => h hp) : stepT p st e = _)).symm, rfl⟩))))
end Go.Proofs.YtmccnmahegbmpaaGreat.J

