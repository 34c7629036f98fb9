/- Texts of this proof, laid together. -/
import Derived.Test.YtjhonjdhanlbkaaGreatX5REvalLists
set_option linter.unusedVariables false
set_option linter.unusedSimpArgs false
/- Walks: the machine reckons an expression. -/
namespace Go.Proofs.YtjhonjdhanlbkaaGreat.J
open Go Go.RowKit
set_option maxRecDepth 10000
set_option maxHeartbeats 4000000
theorem meval_n  : ∀ (n : Nat), EvIH n := by
  intro n
  induction n with
  | zero => intro e s f b fr hw hf hs h0 hn; exact absurd hn (by have := EX.sz_pos e; omega)
  | succ n ih =>
    intro e s f b fr hw hf hs h0 hn
    obtain ⟨o, bb, t, l⟩ := e
    obtain ⟨ho0, ho30, hl8, hoa⟩ := EX.ok_args hf.part
    obtain ⟨-, -, htr, hl56, hwl⟩ := hw.inv
    have hfl : ∀ x ∈ l, x.Fine := fun x hx => hf.kid hx
    have hsz : ∀ x ∈ l, x.sz ≤ n := fun x hx => by
      obtain ⟨i, hi, rfl⟩ := List.getElem_of_mem hx
      exact EX.sz_get hn hi
    refine AC.of_J Tryz.func33 rfl Tryz.ntmps33 rfl fun w0 A0 => ?_
    refine J.seq ?_
    refine J.region_lit ?_
    refine JL.box_agg (.tmp rfl) rfl fun b3 => ?_
    refine JL.alloc z29 rfl rfl fun b4 => ?_
    refine JL.nil ?_
    refine thenQ.n ?_
    refine J.seq ?_
    refine J.region_lit ?_
    refine JL.q rfl rfl rfl (QW.move (.tmp rfl)) ?_
    refine JL.q rfl rfl rfl (QW.nil_ptr (.tmp rfl)) ?_
    refine JL.q rfl rfl rfl (QW.field_ptr fo69_1 (.tmp rfl) rfl) ?_
    refine JL.q rfl rfl rfl (QW.load_box1 2 ty3 (.tmp rfl) rfl mb_fuel) ?_
    refine JL.q rfl rfl rfl (QW.gtr (.tmp rfl) .const) ?_
    refine JL.callPF [] gofn45 rfl Lent.nil (fun _ => (.cons (.tmp rfl) (.cons .const .nil))) (nd_ok _ _) (.inl rfl) (fun k13 x13 o13 h13 => ?_) (fun k13 => ?_)
    rotate_left
    · skip
      refine thenQ.p ?_
      exact ⟨_, selP [.k, .k, .k] _, _, rfl, rfl, sel_perm [.k, .k, .k] _, EvR.er (c := 83) (ev_lo (by simp at k13; omega)) (by decide)⟩
    obtain ⟨rfl, rfl⟩ := h13
    refine JL.nil ?_
    refine thenQ.n ?_
    refine J.seq ?_
    refine J.region_lit ?_
    have hlo : ¬ f < 1 := by (simp at k13; omega)
    have h1 : okF (f - 1) := ⟨by omega, by have := h0.2; omega⟩
    refine JL.q rfl rfl rfl (QW.move (.tmp rfl)) ?_
    refine JL.q rfl rfl rfl (QW.nil_ptr (.tmp rfl)) ?_
    refine JL.q rfl rfl rfl (QW.field_ptr fo69_1 (.tmp rfl) rfl) ?_
    refine JL.q rfl rfl rfl (QW.load_box1 2 ty3 (.tmp rfl) rfl mb_fuel) ?_
    refine JL.q rfl rfl rfl (QW.sub (.tmp rfl) .const (w64 (by have := h0.2; omega))) ?_
    refine JL.q rfl rfl rfl (QW.nil_ptr (.tmp rfl)) ?_
    refine JL.q rfl rfl rfl (QW.field_ptr fo69_1 (.tmp rfl) rfl) ?_
    refine JL.store_box 2 ty3 (.tmp rfl) rfl (.tmp rfl) rfl rfl (by rw [mb_len]; rfl) mb_setf rfl ?_
    refine JL.nil ?_
    refine thenQ.n ?_
    refine J.seq ?_
    refine J.seq ?_
    refine J.region_lit ?_
    refine JL.q rfl rfl rfl (QW.field_ptr fo34_0 (.tmp rfl) rfl) ?_
    refine JL.q rfl rfl rfl (QW.load_box1 1 ty3 (.tmp rfl) rfl rfl) ?_
    refine JL.nil ?_
    refine thenQ.n ?_
    refine J.block ?_
    refine J.seq ?_
    refine J.region_lit ?_
    refine JL.q rfl rfl rfl (QW.eql (.tmp rfl) .const) ?_
    refine JL.q rfl rfl rfl (QW.assign (.tmp rfl)) ?_
    refine JL.nil ?_
    refine thenQ.n ?_
    refine J.cond (.tmp rfl) (fun c1 => ?_) (fun c1 => ?_)
    · skip
      obtain rfl : o = 0 := by simpa using c1
      refine J.seq ?_
      refine J.region_lit ?_
      refine JL.q rfl rfl rfl (QW.build (idx := []) pl29 z29 rfl .nil rfl rfl rfl rfl) ?_
      first | refine JL.store_boxF 0 ty29 (.tmp rfl) rfl (.tmp rfl) (by first | rfl | assumption) (by first | rfl | exact V.cs_length _ _) (by first | rfl | exact V.cs_length _ _) rfl ?_ | refine JL.store_box 0 ty29 (.tmp rfl) rfl (.tmp rfl) (by first | rfl | assumption) (by first | rfl | exact V.cs_length _ _) rfl rfl rfl ?_
      refine JL.nil ?_
      refine thenQ.n ?_
      refine J.ret ?_
      refine blkQ.r ?_
      refine thenQ.r ?_
      exact ⟨_, selP [.k, .k, .p] _, _, RetEv.one rfl (by first | exact REv.cell 0 ty29 rfl rfl rfl rfl (.aggL (.cons (.refl _) (.cons (.refl _) (.cons (.refl _) (.cons (.nil false false _) (.cons (.nil false false _) .nil)))))) | exact REv.cell 0 ty29 rfl rfl (take_at (V.cs_length _ _) rfl) (V.cs_length _ _) (.aggL (.cons (.refl _) (.cons (.refl _) (.cons (.refl _) (.cons (.nil false false _) (.cons (.nil false false _) .nil))))))), rfl, sel_perm [.k, .k, .p] _, EvR.ok (v := .nil) (ev_0 hlo)⟩
    have n0 : ¬ o = 0 := by simpa using c1
    refine J.seq ?_
    refine J.seq ?_
    refine J.region_lit ?_
    refine JL.q rfl rfl rfl (QW.eql (.tmp rfl) .const) ?_
    refine JL.q rfl rfl rfl (QW.assign (.tmp rfl)) ?_
    refine JL.nil ?_
    refine thenQ.n ?_
    refine J.cond (.tmp rfl) (fun c2 => ?_) (fun c2 => ?_)
    · skip
      obtain rfl : o = 1 := by simpa using c2
      refine J.skip ?_
      refine thenQ.n ?_
      refine J.cond (.tmp rfl) (fun c3 => ?_) (fun c3 => absurd c3 (by rw [c2]; decide))
      refine J.seq ?_
      refine J.region_lit ?_
      refine JL.q rfl rfl rfl (QW.field_ptr fo34_0 (.tmp rfl) rfl) ?_
      refine JL.q rfl rfl rfl (QW.load_box1 1 ty3 (.tmp rfl) rfl rfl) ?_
      refine JL.q rfl rfl rfl (QW.eql (.tmp rfl) .const) ?_
      refine JL.q rfl rfl rfl (QW.call gofn46 (.cons (.tmp rfl) .nil) (boolean_ok _)) ?_
      first | refine JL.store_boxF 0 ty29 (.tmp rfl) rfl (.tmp rfl) (by first | rfl | assumption) (by first | rfl | exact V.cs_length _ _) (by first | rfl | exact V.cs_length _ _) rfl ?_ | refine JL.store_box 0 ty29 (.tmp rfl) rfl (.tmp rfl) (by first | rfl | assumption) (by first | rfl | exact V.cs_length _ _) rfl rfl rfl ?_
      refine JL.nil ?_
      refine thenQ.n ?_
      refine J.ret ?_
      refine blkQ.r ?_
      refine thenQ.r ?_
      exact ⟨_, selP [.k, .k, .p] _, _, RetEv.one rfl (by first | exact REv.cell 0 ty29 rfl rfl rfl rfl (.refl _) | exact REv.cell 0 ty29 rfl rfl (take_at (V.cs_length _ _) rfl) (V.cs_length _ _) (.refl _)), rfl, sel_perm [.k, .k, .p] _, EvR.ok (v := .tr false) (ev_1 hlo)⟩
    have n1 : ¬ o = 1 := by simpa using c2
    refine J.region_lit ?_
    refine JL.q rfl rfl rfl (QW.eql (.tmp rfl) .const) ?_
    refine JL.q rfl rfl rfl (QW.assign (.tmp rfl)) ?_
    refine JL.nil ?_
    refine thenQ.n ?_
    refine J.cond (.tmp rfl) (fun c3 => ?_) (fun c3 => ?_)
    · skip
      obtain rfl : o = 2 := by simpa using c3
      refine J.seq ?_
      refine J.region_lit ?_
      refine JL.q rfl rfl rfl (QW.field_ptr fo34_0 (.tmp rfl) rfl) ?_
      refine JL.q rfl rfl rfl (QW.load_box1 1 ty3 (.tmp rfl) rfl rfl) ?_
      refine JL.q rfl rfl rfl (QW.eql (.tmp rfl) .const) ?_
      refine JL.q rfl rfl rfl (QW.call gofn46 (.cons (.tmp rfl) .nil) (boolean_ok _)) ?_
      first | refine JL.store_boxF 0 ty29 (.tmp rfl) rfl (.tmp rfl) (by first | rfl | assumption) (by first | rfl | exact V.cs_length _ _) (by first | rfl | exact V.cs_length _ _) rfl ?_ | refine JL.store_box 0 ty29 (.tmp rfl) rfl (.tmp rfl) (by first | rfl | assumption) (by first | rfl | exact V.cs_length _ _) rfl rfl rfl ?_
      refine JL.nil ?_
      refine thenQ.n ?_
      refine J.ret ?_
      refine blkQ.r ?_
      refine thenQ.r ?_
      exact ⟨_, selP [.k, .k, .p] _, _, RetEv.one rfl (by first | exact REv.cell 0 ty29 rfl rfl rfl rfl (.refl _) | exact REv.cell 0 ty29 rfl rfl (take_at (V.cs_length _ _) rfl) (V.cs_length _ _) (.refl _)), rfl, sel_perm [.k, .k, .p] _, EvR.ok (v := .tr true) (ev_2 hlo)⟩
    have n2 : ¬ o = 2 := by simpa using c3
    refine J.seq ?_
    refine J.region_lit ?_
    refine JL.q rfl rfl rfl (QW.eql (.tmp rfl) .const) ?_
    refine JL.q rfl rfl rfl (QW.assign (.tmp rfl)) ?_
    refine JL.nil ?_
    refine thenQ.n ?_
    refine J.cond (.tmp rfl) (fun c4 => ?_) (fun c4 => ?_)
    · skip
      obtain rfl : o = 3 := by simpa using c4
      refine J.seq ?_
      refine J.region_lit ?_
      refine JL.q rfl rfl rfl (QW.field_ptr fo34_1 (.tmp rfl) rfl) ?_
      refine JL.q rfl rfl rfl (QW.load_box1 1 ty22 (.tmp rfl) rfl rfl) ?_
      refine JL.q rfl rfl rfl (QW.call gofn47 (.cons (.tmp rfl) .nil) (nof_ok _)) ?_
      first | refine JL.store_boxF 0 ty29 (.tmp rfl) rfl (.tmp rfl) (by first | rfl | assumption) (by first | rfl | exact V.cs_length _ _) (by first | rfl | exact V.cs_length _ _) rfl ?_ | refine JL.store_box 0 ty29 (.tmp rfl) rfl (.tmp rfl) (by first | rfl | assumption) (by first | rfl | exact V.cs_length _ _) rfl rfl rfl ?_
      refine JL.nil ?_
      refine thenQ.n ?_
      refine J.ret ?_
      refine blkQ.r ?_
      refine thenQ.r ?_
      exact ⟨_, selP [.k, .k, .p] _, _, RetEv.one rfl (by first | exact REv.cell 0 ty29 rfl rfl rfl rfl (.refl _) | exact REv.cell 0 ty29 rfl rfl (take_at (V.cs_length _ _) rfl) (V.cs_length _ _) (.refl _)), rfl, sel_perm [.k, .k, .p] _, EvR.ok (v := .nu bb) (ev_3 hlo)⟩
    have n3 : ¬ o = 3 := by simpa using c4
    refine J.seq ?_
    refine J.region_lit ?_
    refine JL.q rfl rfl rfl (QW.eql (.tmp rfl) .const) ?_
    refine JL.q rfl rfl rfl (QW.assign (.tmp rfl)) ?_
    refine JL.nil ?_
    refine thenQ.n ?_
    refine J.cond (.tmp rfl) (fun c5 => ?_) (fun c5 => ?_)
    · skip
      obtain rfl : o = 4 := by simpa using c5
      refine J.seq ?_
      refine J.region_lit ?_
      refine JL.q rfl rfl rfl (QW.field_ptr fo34_2 (.tmp rfl) rfl) ?_
      refine JL.q rfl rfl rfl (QW.load_box1 1 ty9 (.tmp rfl) rfl rfl) ?_
      refine JL.q rfl rfl rfl (QW.build (idx := [0, 2]) pl29 z29 rfl (.cons .const (.cons (.tmp rfl) .nil)) rfl rfl rfl rfl) ?_
      first | refine JL.store_boxF 0 ty29 (.tmp rfl) rfl (.tmp rfl) (by first | rfl | assumption) (by first | rfl | exact V.cs_length _ _) (by first | rfl | exact V.cs_length _ _) rfl ?_ | refine JL.store_box 0 ty29 (.tmp rfl) rfl (.tmp rfl) (by first | rfl | assumption) (by first | rfl | exact V.cs_length _ _) rfl rfl rfl ?_
      refine JL.nil ?_
      refine thenQ.n ?_
      refine J.ret ?_
      refine blkQ.r ?_
      refine thenQ.r ?_
      exact ⟨_, selP [.k, .k, .p] _, _, RetEv.one rfl (by first | exact REv.cell 0 ty29 rfl rfl rfl rfl (.aggL (.cons (.refl _) (.cons (.refl _) (.cons (.refl _) (.cons (.nil false false _) (.cons (.nil false false _) .nil)))))) | exact REv.cell 0 ty29 rfl rfl (take_at (V.cs_length _ _) rfl) (V.cs_length _ _) (.aggL (.cons (.refl _) (.cons (.refl _) (.cons (.refl _) (.cons (.nil false false _) (.cons (.nil false false _) .nil))))))), rfl, sel_perm [.k, .k, .p] _, EvR.ok (v := .tx t) (ev_4 hlo)⟩
    have n4 : ¬ o = 4 := by simpa using c5
    refine J.seq ?_
    refine J.region_lit ?_
    refine JL.q rfl rfl rfl (QW.eql (.tmp rfl) .const) ?_
    refine JL.q rfl rfl rfl (QW.assign (.tmp rfl)) ?_
    refine JL.nil ?_
    refine thenQ.n ?_
    refine J.cond (.tmp rfl) (fun c6 => ?_) (fun c6 => ?_)
    · skip
      obtain rfl : o = 5 := by simpa using c6
      refine J.seq ?_
      refine J.region_lit ?_
      refine JL.q rfl rfl rfl (QW.move (.tmp rfl)) ?_
      refine JL.q rfl rfl rfl (QW.nil_ptr (.tmp rfl)) ?_
      refine JL.q rfl rfl rfl (QW.field_ptr fo69_0 (.tmp rfl) rfl) ?_
      refine JL.q rfl rfl rfl (QW.field_ptr fo36_0 (.tmp rfl) rfl) ?_
      refine JL.q rfl rfl rfl (QW.load_box 2 ty29 (.tmp rfl) rfl (mb_at 0) (V.cs_length _ _)) ?_
      first | refine JL.store_boxF 0 ty29 (.tmp rfl) rfl (.tmp rfl) (by first | rfl | assumption) (by first | rfl | exact V.cs_length _ _) (by first | rfl | exact V.cs_length _ _) rfl ?_ | refine JL.store_box 0 ty29 (.tmp rfl) rfl (.tmp rfl) (by first | rfl | assumption) (by first | rfl | exact V.cs_length _ _) rfl rfl rfl ?_
      refine JL.nil ?_
      refine thenQ.n ?_
      refine J.ret ?_
      refine blkQ.r ?_
      refine thenQ.r ?_
      exact ⟨_, selP [.k, .k, .p] _, _, RetEv.one rfl (by first | exact REv.cell 0 ty29 rfl rfl rfl rfl (.refl _) | exact REv.cell 0 ty29 rfl rfl (take_at (V.cs_length _ _) rfl) (V.cs_length _ _) (.refl _)), rfl, sel_perm [.k, .k, .p] _, EvR.ok (v := s.st) (ev_5 hlo)⟩
    have n5 : ¬ o = 5 := by simpa using c6
    refine J.seq ?_
    refine J.region_lit ?_
    refine JL.q rfl rfl rfl (QW.eql (.tmp rfl) .const) ?_
    refine JL.q rfl rfl rfl (QW.assign (.tmp rfl)) ?_
    refine JL.nil ?_
    refine thenQ.n ?_
    refine J.cond (.tmp rfl) (fun c7 => ?_) (fun c7 => ?_)
    · skip
      obtain rfl : o = 6 := by simpa using c7
      refine J.seq ?_
      refine J.region_lit ?_
      refine JL.q rfl rfl rfl (QW.move (.tmp rfl)) ?_
      refine JL.q rfl rfl rfl (QW.nil_ptr (.tmp rfl)) ?_
      refine JL.q rfl rfl rfl (QW.field_ptr fo69_0 (.tmp rfl) rfl) ?_
      refine JL.q rfl rfl rfl (QW.field_ptr fo36_1 (.tmp rfl) rfl) ?_
      refine JL.q rfl rfl rfl (QW.load_box 2 ty29 (.tmp rfl) rfl (mb_at 1) (V.cs_length _ _)) ?_
      first | refine JL.store_boxF 0 ty29 (.tmp rfl) rfl (.tmp rfl) (by first | rfl | assumption) (by first | rfl | exact V.cs_length _ _) (by first | rfl | exact V.cs_length _ _) rfl ?_ | refine JL.store_box 0 ty29 (.tmp rfl) rfl (.tmp rfl) (by first | rfl | assumption) (by first | rfl | exact V.cs_length _ _) rfl rfl rfl ?_
      refine JL.nil ?_
      refine thenQ.n ?_
      refine J.ret ?_
      refine blkQ.r ?_
      refine thenQ.r ?_
      exact ⟨_, selP [.k, .k, .p] _, _, RetEv.one rfl (by first | exact REv.cell 0 ty29 rfl rfl rfl rfl (.refl _) | exact REv.cell 0 ty29 rfl rfl (take_at (V.cs_length _ _) rfl) (V.cs_length _ _) (.refl _)), rfl, sel_perm [.k, .k, .p] _, EvR.ok (v := s.ev) (ev_6 hlo)⟩
    have n6 : ¬ o = 6 := by simpa using c7
    refine J.seq ?_
    refine J.region_lit ?_
    refine JL.q rfl rfl rfl (QW.eql (.tmp rfl) .const) ?_
    refine JL.q rfl rfl rfl (QW.assign (.tmp rfl)) ?_
    refine JL.nil ?_
    refine thenQ.n ?_
    refine J.cond (.tmp rfl) (fun c8 => ?_) (fun c8 => ?_)
    · skip
      obtain rfl : o = 7 := by simpa using c8
      refine J.seq ?_
      refine J.region_lit ?_
      refine JL.q rfl rfl rfl (QW.move (.tmp rfl)) ?_
      refine JL.q rfl rfl rfl (QW.nil_ptr (.tmp rfl)) ?_
      refine JL.q rfl rfl rfl (QW.field_ptr fo69_0 (.tmp rfl) rfl) ?_
      refine JL.q rfl rfl rfl (QW.field_ptr fo36_2 (.tmp rfl) rfl) ?_
      refine JL.q rfl rfl rfl (QW.load_box 2 ty29 (.tmp rfl) rfl (mb_at 2) (V.cs_length _ _)) ?_
      first | refine JL.store_boxF 0 ty29 (.tmp rfl) rfl (.tmp rfl) (by first | rfl | assumption) (by first | rfl | exact V.cs_length _ _) (by first | rfl | exact V.cs_length _ _) rfl ?_ | refine JL.store_box 0 ty29 (.tmp rfl) rfl (.tmp rfl) (by first | rfl | assumption) (by first | rfl | exact V.cs_length _ _) rfl rfl rfl ?_
      refine JL.nil ?_
      refine thenQ.n ?_
      refine J.ret ?_
      refine blkQ.r ?_
      refine thenQ.r ?_
      exact ⟨_, selP [.k, .k, .p] _, _, RetEv.one rfl (by first | exact REv.cell 0 ty29 rfl rfl rfl rfl (.refl _) | exact REv.cell 0 ty29 rfl rfl (take_at (V.cs_length _ _) rfl) (V.cs_length _ _) (.refl _)), rfl, sel_perm [.k, .k, .p] _, EvR.ok (v := s.it) (ev_7 hlo)⟩
    have n7 : ¬ o = 7 := by simpa using c8
    refine J.seq ?_
    refine J.region_lit ?_
    refine JL.q rfl rfl rfl (QW.eql (.tmp rfl) .const) ?_
    refine JL.q rfl rfl rfl (QW.assign (.tmp rfl)) ?_
    refine JL.nil ?_
    refine thenQ.n ?_
    refine J.cond (.tmp rfl) (fun c9 => ?_) (fun c9 => ?_)
    · skip
      obtain rfl : o = 18 := by simpa using c9
      obtain ⟨a, y, rfl⟩ := etwo (l := l) (by omega)
      refine J.seq ?_
      refine J.region_lit ?_
      refine JL.q rfl rfl rfl (QW.move (.tmp rfl)) ?_
      refine JL.q rfl rfl rfl (QW.field_ptr fo34_3 (.tmp rfl) rfl) ?_
      refine JL.q rfl rfl rfl (QW.load_box1 1 ty32 (.tmp rfl) rfl rfl) ?_
      refine JL.q rfl rfl rfl (QW.index_sl sl32 ty34 rfl (.tmp rfl) .const (by first | rfl | omega | (simp; done)) (by rfl)) ?_
      refine JL.q rfl rfl rfl (by first | exact QW.load_ref ty34 (.tmp rfl) rfl rfl | exact QW.load_ref ty34 (.tmp rfl) (take_at0 (EX.cs_length _ _) rfl) (EX.cs_length _ _)) ?_
      refine JL.callPF [.k, .k, .p] gofn48 rfl Lent.nil (fun _ => (.cons (.tmp rfl) (.cons (.tmp rfl) .nil))) (mtruth_ok (e := a) (f := f - 1) ih Xc.self (hwl _ (by simp)) (hfl _ (by simp)) hs h1 (hsz _ (by simp))) (.inl rfl) (fun k71 x71 o71 h71 => ?_) (fun k71 => ?_)
      rotate_left
      · skip
        refine thenQ.p ?_
        refine blkQ.p ?_
        refine thenQ.p ?_
        exact ⟨_, selP [.k, .k] _, _, rfl, rfl, sel_perm [.k, .k] _, EvR.er ((ev_18 hlo).trans (ao_er (er_of k71))) k71⟩
      obtain ⟨q71, f71, hq71, rfl, rfl⟩ := h71
      have h2 : okF f71 := tr_okF (hwl _ (by simp)) (hfl _ (by simp)) hs h1 hq71
      refine JL.q rfl rfl rfl (QW.move (.tmp rfl)) ?_
      by_cases hs_q71 : q71 = false
      · subst hs_q71
        refine JL.gskip rfl rfl rfl rfl ?_
        refine JL.gskip rfl rfl rfl rfl ?_
        refine JL.gskip rfl rfl rfl rfl ?_
        refine JL.gskip rfl rfl rfl rfl ?_
        refine JL.gskip rfl rfl rfl rfl ?_
        refine JL.gskip rfl rfl rfl rfl ?_
        refine JL.q rfl rfl rfl (QW.pick_andF (.tmp rfl)) ?_
        refine JL.q rfl rfl rfl (QW.call gofn46 (.cons (.tmp rfl) .nil) (boolean_ok _)) ?_
        first | refine JL.store_boxF 0 ty29 (.tmp rfl) rfl (.tmp rfl) (by first | rfl | assumption) (by first | rfl | exact V.cs_length _ _) (by first | rfl | exact V.cs_length _ _) rfl ?_ | refine JL.store_box 0 ty29 (.tmp rfl) rfl (.tmp rfl) (by first | rfl | assumption) (by first | rfl | exact V.cs_length _ _) rfl rfl rfl ?_
        refine JL.nil ?_
        refine thenQ.n ?_
        refine J.ret ?_
        refine blkQ.r ?_
        refine thenQ.r ?_
        exact ⟨_, selP [.k, .k, .p] _, _, RetEv.one rfl (by first | exact REv.cell 0 ty29 rfl rfl rfl rfl (.refl _) | exact REv.cell 0 ty29 rfl rfl (take_at (V.cs_length _ _) rfl) (V.cs_length _ _) (.refl _)), rfl, sel_perm [.k, .k, .p] _, EvR.ok (v := .tr false) ((ev_18 hlo).trans (ao_1 hq71))⟩
      obtain rfl : q71 = true := by simpa using hs_q71
      refine JL.ungd rfl rfl rfl ?_
      refine JL.q rfl rfl rfl (QW.move (.tmp rfl)) ?_
      refine JL.ungd rfl rfl rfl ?_
      refine JL.q rfl rfl rfl (QW.field_ptr fo34_3 (.tmp rfl) rfl) ?_
      refine JL.ungd rfl rfl rfl ?_
      refine JL.q rfl rfl rfl (QW.load_box1 1 ty32 (.tmp rfl) rfl rfl) ?_
      refine JL.ungd rfl rfl rfl ?_
      refine JL.q rfl rfl rfl (QW.index_sl sl32 ty34 rfl (.tmp rfl) .const (by first | rfl | omega | (simp; done)) (by rfl)) ?_
      refine JL.ungd rfl rfl rfl ?_
      refine JL.q rfl rfl rfl (by first | exact QW.load_ref ty34 (.tmp rfl) rfl rfl | exact QW.load_ref ty34 (.tmp rfl) (take_at0 (EX.cs_length _ _) rfl) (EX.cs_length _ _)) ?_
      refine JL.ungd rfl rfl rfl ?_
      refine JL.callPF [.k, .k, .p] gofn48 rfl Lent.nil (fun _ => (.cons (.tmp rfl) (.cons (.tmp rfl) .nil))) (mtruth_ok (e := y) (f := f71) ih Xc.self (hwl _ (by simp)) (hfl _ (by simp)) hs h2 (hsz _ (by simp))) (.inl rfl) (fun k78 x78 o78 h78 => ?_) (fun k78 => ?_)
      rotate_left
      · skip
        refine thenQ.p ?_
        refine blkQ.p ?_
        refine thenQ.p ?_
        exact ⟨_, selP [.k, .k] _, _, rfl, rfl, sel_perm [.k, .k] _, EvR.er ((ev_18 hlo).trans (ao_2 (k := false) hq71 (er_of k78))) k78⟩
      obtain ⟨q78, f78, hq78, rfl, rfl⟩ := h78
      refine JL.q rfl rfl rfl (QW.pick_andT (.tmp rfl) (.tmp rfl)) ?_
      refine JL.q rfl rfl rfl (QW.call gofn46 (.cons (.tmp rfl) .nil) (boolean_ok _)) ?_
      first | refine JL.store_boxF 0 ty29 (.tmp rfl) rfl (.tmp rfl) (by first | rfl | assumption) (by first | rfl | exact V.cs_length _ _) (by first | rfl | exact V.cs_length _ _) rfl ?_ | refine JL.store_box 0 ty29 (.tmp rfl) rfl (.tmp rfl) (by first | rfl | assumption) (by first | rfl | exact V.cs_length _ _) rfl rfl rfl ?_
      refine JL.nil ?_
      refine thenQ.n ?_
      refine J.ret ?_
      refine blkQ.r ?_
      refine thenQ.r ?_
      exact ⟨_, selP [.k, .k, .p] _, _, RetEv.one rfl (by first | exact REv.cell 0 ty29 rfl rfl rfl rfl (.refl _) | exact REv.cell 0 ty29 rfl rfl (take_at (V.cs_length _ _) rfl) (V.cs_length _ _) (.refl _)), rfl, sel_perm [.k, .k, .p] _, EvR.ok (v := .tr q78) ((ev_18 hlo).trans (ao_3 (k := false) hq71 hq78))⟩
    have n18 : ¬ o = 18 := by simpa using c9
    refine J.seq ?_
    refine J.region_lit ?_
    refine JL.q rfl rfl rfl (QW.eql (.tmp rfl) .const) ?_
    refine JL.q rfl rfl rfl (QW.assign (.tmp rfl)) ?_
    refine JL.nil ?_
    refine thenQ.n ?_
    refine J.cond (.tmp rfl) (fun c10 => ?_) (fun c10 => ?_)
    · skip
      obtain rfl : o = 19 := by simpa using c10
      obtain ⟨a, y, rfl⟩ := etwo (l := l) (by omega)
      refine J.seq ?_
      refine J.region_lit ?_
      refine JL.q rfl rfl rfl (QW.move (.tmp rfl)) ?_
      refine JL.q rfl rfl rfl (QW.field_ptr fo34_3 (.tmp rfl) rfl) ?_
      refine JL.q rfl rfl rfl (QW.load_box1 1 ty32 (.tmp rfl) rfl rfl) ?_
      refine JL.q rfl rfl rfl (QW.index_sl sl32 ty34 rfl (.tmp rfl) .const (by first | rfl | omega | (simp; done)) (by rfl)) ?_
      refine JL.q rfl rfl rfl (by first | exact QW.load_ref ty34 (.tmp rfl) rfl rfl | exact QW.load_ref ty34 (.tmp rfl) (take_at0 (EX.cs_length _ _) rfl) (EX.cs_length _ _)) ?_
      refine JL.callPF [.k, .k, .p] gofn48 rfl Lent.nil (fun _ => (.cons (.tmp rfl) (.cons (.tmp rfl) .nil))) (mtruth_ok (e := a) (f := f - 1) ih Xc.self (hwl _ (by simp)) (hfl _ (by simp)) hs h1 (hsz _ (by simp))) (.inl rfl) (fun k88 x88 o88 h88 => ?_) (fun k88 => ?_)
      rotate_left
      · skip
        refine thenQ.p ?_
        refine blkQ.p ?_
        refine thenQ.p ?_
        exact ⟨_, selP [.k, .k] _, _, rfl, rfl, sel_perm [.k, .k] _, EvR.er ((ev_19 hlo).trans (ao_er (er_of k88))) k88⟩
      obtain ⟨q88, f88, hq88, rfl, rfl⟩ := h88
      have h2 : okF f88 := tr_okF (hwl _ (by simp)) (hfl _ (by simp)) hs h1 hq88
      refine JL.q rfl rfl rfl (QW.move (.tmp rfl)) ?_
      by_cases hs_q88 : q88 = true
      · subst hs_q88
        refine JL.gskip rfl rfl rfl rfl ?_
        refine JL.gskip rfl rfl rfl rfl ?_
        refine JL.gskip rfl rfl rfl rfl ?_
        refine JL.gskip rfl rfl rfl rfl ?_
        refine JL.gskip rfl rfl rfl rfl ?_
        refine JL.gskip rfl rfl rfl rfl ?_
        refine JL.q rfl rfl rfl (QW.pick_orT (.tmp rfl)) ?_
        refine JL.q rfl rfl rfl (QW.call gofn46 (.cons (.tmp rfl) .nil) (boolean_ok _)) ?_
        first | refine JL.store_boxF 0 ty29 (.tmp rfl) rfl (.tmp rfl) (by first | rfl | assumption) (by first | rfl | exact V.cs_length _ _) (by first | rfl | exact V.cs_length _ _) rfl ?_ | refine JL.store_box 0 ty29 (.tmp rfl) rfl (.tmp rfl) (by first | rfl | assumption) (by first | rfl | exact V.cs_length _ _) rfl rfl rfl ?_
        refine JL.nil ?_
        refine thenQ.n ?_
        refine J.ret ?_
        refine blkQ.r ?_
        refine thenQ.r ?_
        exact ⟨_, selP [.k, .k, .p] _, _, RetEv.one rfl (by first | exact REv.cell 0 ty29 rfl rfl rfl rfl (.refl _) | exact REv.cell 0 ty29 rfl rfl (take_at (V.cs_length _ _) rfl) (V.cs_length _ _) (.refl _)), rfl, sel_perm [.k, .k, .p] _, EvR.ok (v := .tr true) ((ev_19 hlo).trans (ao_1 hq88))⟩
      obtain rfl : q88 = false := by simpa using hs_q88
      refine JL.ungd rfl rfl rfl ?_
      refine JL.q rfl rfl rfl (QW.move (.tmp rfl)) ?_
      refine JL.ungd rfl rfl rfl ?_
      refine JL.q rfl rfl rfl (QW.field_ptr fo34_3 (.tmp rfl) rfl) ?_
      refine JL.ungd rfl rfl rfl ?_
      refine JL.q rfl rfl rfl (QW.load_box1 1 ty32 (.tmp rfl) rfl rfl) ?_
      refine JL.ungd rfl rfl rfl ?_
      refine JL.q rfl rfl rfl (QW.index_sl sl32 ty34 rfl (.tmp rfl) .const (by first | rfl | omega | (simp; done)) (by rfl)) ?_
      refine JL.ungd rfl rfl rfl ?_
      refine JL.q rfl rfl rfl (by first | exact QW.load_ref ty34 (.tmp rfl) rfl rfl | exact QW.load_ref ty34 (.tmp rfl) (take_at0 (EX.cs_length _ _) rfl) (EX.cs_length _ _)) ?_
      refine JL.ungd rfl rfl rfl ?_
      refine JL.callPF [.k, .k, .p] gofn48 rfl Lent.nil (fun _ => (.cons (.tmp rfl) (.cons (.tmp rfl) .nil))) (mtruth_ok (e := y) (f := f88) ih Xc.self (hwl _ (by simp)) (hfl _ (by simp)) hs h2 (hsz _ (by simp))) (.inl rfl) (fun k95 x95 o95 h95 => ?_) (fun k95 => ?_)
      rotate_left
      · skip
        refine thenQ.p ?_
        refine blkQ.p ?_
        refine thenQ.p ?_
        exact ⟨_, selP [.k, .k] _, _, rfl, rfl, sel_perm [.k, .k] _, EvR.er ((ev_19 hlo).trans (ao_2 (k := true) hq88 (er_of k95))) k95⟩
      obtain ⟨q95, f95, hq95, rfl, rfl⟩ := h95
      refine JL.q rfl rfl rfl (QW.pick_orF (.tmp rfl) (.tmp rfl)) ?_
      refine JL.q rfl rfl rfl (QW.call gofn46 (.cons (.tmp rfl) .nil) (boolean_ok _)) ?_
      first | refine JL.store_boxF 0 ty29 (.tmp rfl) rfl (.tmp rfl) (by first | rfl | assumption) (by first | rfl | exact V.cs_length _ _) (by first | rfl | exact V.cs_length _ _) rfl ?_ | refine JL.store_box 0 ty29 (.tmp rfl) rfl (.tmp rfl) (by first | rfl | assumption) (by first | rfl | exact V.cs_length _ _) rfl rfl rfl ?_
      refine JL.nil ?_
      refine thenQ.n ?_
      refine J.ret ?_
      refine blkQ.r ?_
      refine thenQ.r ?_
      exact ⟨_, selP [.k, .k, .p] _, _, RetEv.one rfl (by first | exact REv.cell 0 ty29 rfl rfl rfl rfl (.refl _) | exact REv.cell 0 ty29 rfl rfl (take_at (V.cs_length _ _) rfl) (V.cs_length _ _) (.refl _)), rfl, sel_perm [.k, .k, .p] _, EvR.ok (v := .tr q95) ((ev_19 hlo).trans (ao_3 (k := true) hq88 hq95))⟩
    have n19 : ¬ o = 19 := by simpa using c10
    refine J.seq ?_
    refine J.region_lit ?_
    refine JL.q rfl rfl rfl (QW.eql (.tmp rfl) .const) ?_
    refine JL.q rfl rfl rfl (QW.assign (.tmp rfl)) ?_
    refine JL.nil ?_
    refine thenQ.n ?_
    refine J.cond (.tmp rfl) (fun c11 => ?_) (fun c11 => ?_)
    · skip
      obtain rfl : o = 21 := by simpa using c11
      obtain ⟨a, y, z, rfl⟩ := ethree (l := l) (by omega)
      refine J.seq ?_
      refine J.seq ?_
      refine J.region_lit ?_
      refine JL.q rfl rfl rfl (QW.move (.tmp rfl)) ?_
      refine JL.q rfl rfl rfl (QW.field_ptr fo34_3 (.tmp rfl) rfl) ?_
      refine JL.q rfl rfl rfl (QW.load_box1 1 ty32 (.tmp rfl) rfl rfl) ?_
      refine JL.q rfl rfl rfl (QW.index_sl sl32 ty34 rfl (.tmp rfl) .const (by first | rfl | omega | (simp; done)) (by rfl)) ?_
      refine JL.q rfl rfl rfl (by first | exact QW.load_ref ty34 (.tmp rfl) rfl rfl | exact QW.load_ref ty34 (.tmp rfl) (take_at0 (EX.cs_length _ _) rfl) (EX.cs_length _ _)) ?_
      refine JL.callPF [.k, .k, .p] gofn48 rfl Lent.nil (fun _ => (.cons (.tmp rfl) (.cons (.tmp rfl) .nil))) (mtruth_ok (e := a) (f := f - 1) ih Xc.self (hwl _ (by simp)) (hfl _ (by simp)) hs h1 (hsz _ (by simp))) (.inl rfl) (fun k105 x105 o105 h105 => ?_) (fun k105 => ?_)
      rotate_left
      · skip
        refine thenQ.p ?_
        refine thenQ.p ?_
        refine blkQ.p ?_
        refine thenQ.p ?_
        exact ⟨_, selP [.k, .k] _, _, rfl, rfl, sel_perm [.k, .k] _, EvR.er ((ev_21 hlo).trans (if_er (er_of k105))) k105⟩
      obtain ⟨q105, f105, hq105, rfl, rfl⟩ := h105
      refine JL.nil ?_
      refine thenQ.n ?_
      refine J.cond (.tmp rfl) (fun c12 => ?_) (fun c12 => ?_)
      · skip
        obtain rfl : q105 = true := c12
        have h2 : okF f105 := tr_okF (hwl _ (by simp)) (hfl _ (by simp)) hs h1 hq105
        refine J.seq ?_
        refine J.region_lit ?_
        refine JL.q rfl rfl rfl (QW.move (.tmp rfl)) ?_
        refine JL.q rfl rfl rfl (QW.field_ptr fo34_3 (.tmp rfl) rfl) ?_
        refine JL.q rfl rfl rfl (QW.load_box1 1 ty32 (.tmp rfl) rfl rfl) ?_
        refine JL.q rfl rfl rfl (QW.index_sl sl32 ty34 rfl (.tmp rfl) .const (by first | rfl | omega | (simp; done)) (by rfl)) ?_
        refine JL.q rfl rfl rfl (by first | exact QW.load_ref ty34 (.tmp rfl) rfl rfl | exact QW.load_ref ty34 (.tmp rfl) (take_at0 (EX.cs_length _ _) rfl) (EX.cs_length _ _)) ?_
        refine JL.callPF [.k, .k, .p] gofn33 rfl Lent.nil (fun _ => (.cons (.tmp rfl) (.cons (.tmp rfl) .nil))) (ih y s f105 b fr (hwl _ (by simp)) (hfl _ (by simp)) hs h2 (hsz _ (by simp))) (.inl rfl) (fun k111 x111 o111 h111 => ?_) (fun k111 => ?_)
        rotate_left
        · skip
          refine thenQ.p ?_
          refine thenQ.p ?_
          refine blkQ.p ?_
          refine thenQ.p ?_
          exact ⟨_, selP [.k, .k] _, _, rfl, rfl, sel_perm [.k, .k] _, EvR.er ((ev_21 hlo).trans ((if_t hq105).trans (er_of k111))) k111⟩
        obtain ⟨v111, f111, hv111, rfl, rfl⟩ := h111
        first | refine JL.store_boxF 0 ty29 (.tmp rfl) rfl (.tmp rfl) (by first | rfl | assumption) (by first | rfl | exact V.cs_length _ _) (by first | rfl | exact V.cs_length _ _) rfl ?_ | refine JL.store_box 0 ty29 (.tmp rfl) rfl (.tmp rfl) (by first | rfl | assumption) (by first | rfl | exact V.cs_length _ _) rfl rfl rfl ?_
        refine JL.nil ?_
        refine thenQ.n ?_
        refine J.ret ?_
        refine thenQ.r ?_
        refine blkQ.r ?_
        refine thenQ.r ?_
        exact ⟨_, selP [.k, .k, .p] _, _, RetEv.one rfl (by first | exact REv.cell 0 ty29 rfl rfl rfl rfl (.refl _) | exact REv.cell 0 ty29 rfl rfl (take_at (V.cs_length _ _) rfl) (V.cs_length _ _) (.refl _)), rfl, sel_perm [.k, .k, .p] _, EvR.ok ((ev_21 hlo).trans ((if_t hq105).trans hv111))⟩
      obtain rfl : q105 = false := c12
      have h2 : okF f105 := tr_okF (hwl _ (by simp)) (hfl _ (by simp)) hs h1 hq105
      refine J.skip ?_
      refine thenQ.n ?_
      refine J.seq ?_
      refine J.region_lit ?_
      refine JL.q rfl rfl rfl (QW.move (.tmp rfl)) ?_
      refine JL.q rfl rfl rfl (QW.field_ptr fo34_3 (.tmp rfl) rfl) ?_
      refine JL.q rfl rfl rfl (QW.load_box1 1 ty32 (.tmp rfl) rfl rfl) ?_
      refine JL.q rfl rfl rfl (QW.index_sl sl32 ty34 rfl (.tmp rfl) .const (by first | rfl | omega | (simp; done)) (by rfl)) ?_
      refine JL.q rfl rfl rfl (by first | exact QW.load_ref ty34 (.tmp rfl) rfl rfl | exact QW.load_ref ty34 (.tmp rfl) (take_at0 (EX.cs_length _ _) rfl) (EX.cs_length _ _)) ?_
      refine JL.callPF [.k, .k, .p] gofn33 rfl Lent.nil (fun _ => (.cons (.tmp rfl) (.cons (.tmp rfl) .nil))) (ih z s f105 b fr (hwl _ (by simp)) (hfl _ (by simp)) hs h2 (hsz _ (by simp))) (.inl rfl) (fun k117 x117 o117 h117 => ?_) (fun k117 => ?_)
      rotate_left
      · skip
        refine thenQ.p ?_
        refine blkQ.p ?_
        refine thenQ.p ?_
        exact ⟨_, selP [.k, .k] _, _, rfl, rfl, sel_perm [.k, .k] _, EvR.er ((ev_21 hlo).trans ((if_f hq105).trans (er_of k117))) k117⟩
      obtain ⟨v117, f117, hv117, rfl, rfl⟩ := h117
      first | refine JL.store_boxF 0 ty29 (.tmp rfl) rfl (.tmp rfl) (by first | rfl | assumption) (by first | rfl | exact V.cs_length _ _) (by first | rfl | exact V.cs_length _ _) rfl ?_ | refine JL.store_box 0 ty29 (.tmp rfl) rfl (.tmp rfl) (by first | rfl | assumption) (by first | rfl | exact V.cs_length _ _) rfl rfl rfl ?_
      refine JL.nil ?_
      refine thenQ.n ?_
      refine J.ret ?_
      refine blkQ.r ?_
      refine thenQ.r ?_
      exact ⟨_, selP [.k, .k, .p] _, _, RetEv.one rfl (by first | exact REv.cell 0 ty29 rfl rfl rfl rfl (.refl _) | exact REv.cell 0 ty29 rfl rfl (take_at (V.cs_length _ _) rfl) (V.cs_length _ _) (.refl _)), rfl, sel_perm [.k, .k, .p] _, EvR.ok ((ev_21 hlo).trans ((if_f hq105).trans hv117))⟩
    have n21 : ¬ o = 21 := by simpa using c11
    refine J.seq ?_
    refine J.seq ?_
    refine J.region_lit ?_
    refine JL.q rfl rfl rfl (QW.eql (.tmp rfl) .const) ?_
    refine JL.q rfl rfl rfl (QW.assign (.tmp rfl)) ?_
    refine JL.nil ?_
    refine thenQ.n ?_
    refine J.cond (.tmp rfl) (fun c12 => ?_) (fun c12 => ?_)
    · skip
      have ho : o = 27 ∨ o = 28 ∨ o = 29 := by (have hh := c12; simp at hh; omega)
      obtain ⟨a, y, rfl⟩ := etwo (l := l) (by omega)
      refine J.skip ?_
      refine thenQ.n ?_
      refine J.cond (.tmp rfl) (fun c13 => ?_) (fun c13 => absurd c13 (by rw [c12]; decide))
      refine J.seq ?_
      refine J.region_lit ?_
      refine JL.q rfl rfl rfl (QW.move (.tmp rfl)) ?_
      refine JL.q rfl rfl rfl (by first | exact QW.load_box 1 ty34 (.tmp rfl) rfl rfl rfl | exact QW.load_box 1 ty34 (.tmp rfl) rfl (take_at (EX.cs_length _ _) rfl) (EX.cs_length _ _)) ?_
      refine JL.callPF [.k, .k, .p] gofn49 rfl Lent.nil (fun _ => (.cons (.tmp rfl) (.cons (.tmp rfl) .nil))) (mover_ok (f := f - 1) ih Xc.mk ho (hwl _ (by simp)) (hwl _ (by simp)) (hfl _ (by simp)) (hfl _ (by simp)) (hsz _ (by simp)) (hsz _ (by simp)) hs h1) (.inl rfl) (fun k124 x124 o124 h124 => ?_) (fun k124 => ?_)
      rotate_left
      · skip
        refine thenQ.p ?_
        refine blkQ.p ?_
        refine thenQ.p ?_
        exact ⟨_, selP [.k, .k] _, _, rfl, rfl, sel_perm [.k, .k] _, EvR.er ((ev_over ho hlo).trans (er_of k124)) k124⟩
      obtain ⟨v124, f124, hv124, rfl, rfl⟩ := h124
      first | refine JL.store_boxF 0 ty29 (.tmp rfl) rfl (.tmp rfl) (by first | rfl | assumption) (by first | rfl | exact V.cs_length _ _) (by first | rfl | exact V.cs_length _ _) rfl ?_ | refine JL.store_box 0 ty29 (.tmp rfl) rfl (.tmp rfl) (by first | rfl | assumption) (by first | rfl | exact V.cs_length _ _) rfl rfl rfl ?_
      refine JL.nil ?_
      refine thenQ.n ?_
      refine J.ret ?_
      refine blkQ.r ?_
      refine thenQ.r ?_
      exact ⟨_, selP [.k, .k, .p] _, _, RetEv.one rfl (by first | exact REv.cell 0 ty29 rfl rfl rfl rfl (.refl _) | exact REv.cell 0 ty29 rfl rfl (take_at (V.cs_length _ _) rfl) (V.cs_length _ _) (.refl _)), rfl, sel_perm [.k, .k, .p] _, EvR.ok ((ev_over ho hlo).trans hv124)⟩
    have n27 : ¬ o = 27 := by simpa using c12
    refine J.seq ?_
    refine J.region_lit ?_
    refine JL.q rfl rfl rfl (QW.eql (.tmp rfl) .const) ?_
    refine JL.q rfl rfl rfl (QW.assign (.tmp rfl)) ?_
    refine JL.nil ?_
    refine thenQ.n ?_
    refine J.cond (.tmp rfl) (fun c13 => ?_) (fun c13 => ?_)
    · skip
      have ho : o = 27 ∨ o = 28 ∨ o = 29 := by (have hh := c13; simp at hh; omega)
      obtain ⟨a, y, rfl⟩ := etwo (l := l) (by omega)
      refine J.skip ?_
      refine thenQ.n ?_
      refine J.cond (.tmp rfl) (fun c14 => ?_) (fun c14 => absurd c14 (by rw [c13]; decide))
      refine J.seq ?_
      refine J.region_lit ?_
      refine JL.q rfl rfl rfl (QW.move (.tmp rfl)) ?_
      refine JL.q rfl rfl rfl (by first | exact QW.load_box 1 ty34 (.tmp rfl) rfl rfl rfl | exact QW.load_box 1 ty34 (.tmp rfl) rfl (take_at (EX.cs_length _ _) rfl) (EX.cs_length _ _)) ?_
      refine JL.callPF [.k, .k, .p] gofn49 rfl Lent.nil (fun _ => (.cons (.tmp rfl) (.cons (.tmp rfl) .nil))) (mover_ok (f := f - 1) ih Xc.mk ho (hwl _ (by simp)) (hwl _ (by simp)) (hfl _ (by simp)) (hfl _ (by simp)) (hsz _ (by simp)) (hsz _ (by simp)) hs h1) (.inl rfl) (fun k124 x124 o124 h124 => ?_) (fun k124 => ?_)
      rotate_left
      · skip
        refine thenQ.p ?_
        refine blkQ.p ?_
        refine thenQ.p ?_
        exact ⟨_, selP [.k, .k] _, _, rfl, rfl, sel_perm [.k, .k] _, EvR.er ((ev_over ho hlo).trans (er_of k124)) k124⟩
      obtain ⟨v124, f124, hv124, rfl, rfl⟩ := h124
      first | refine JL.store_boxF 0 ty29 (.tmp rfl) rfl (.tmp rfl) (by first | rfl | assumption) (by first | rfl | exact V.cs_length _ _) (by first | rfl | exact V.cs_length _ _) rfl ?_ | refine JL.store_box 0 ty29 (.tmp rfl) rfl (.tmp rfl) (by first | rfl | assumption) (by first | rfl | exact V.cs_length _ _) rfl rfl rfl ?_
      refine JL.nil ?_
      refine thenQ.n ?_
      refine J.ret ?_
      refine blkQ.r ?_
      refine thenQ.r ?_
      exact ⟨_, selP [.k, .k, .p] _, _, RetEv.one rfl (by first | exact REv.cell 0 ty29 rfl rfl rfl rfl (.refl _) | exact REv.cell 0 ty29 rfl rfl (take_at (V.cs_length _ _) rfl) (V.cs_length _ _) (.refl _)), rfl, sel_perm [.k, .k, .p] _, EvR.ok ((ev_over ho hlo).trans hv124)⟩
    have n28 : ¬ o = 28 := by simpa using c13
    refine J.region_lit ?_
    refine JL.q rfl rfl rfl (QW.eql (.tmp rfl) .const) ?_
    refine JL.q rfl rfl rfl (QW.assign (.tmp rfl)) ?_
    refine JL.nil ?_
    refine thenQ.n ?_
    refine J.cond (.tmp rfl) (fun c14 => ?_) (fun c14 => ?_)
    · skip
      have ho : o = 27 ∨ o = 28 ∨ o = 29 := by (have hh := c14; simp at hh; omega)
      obtain ⟨a, y, rfl⟩ := etwo (l := l) (by omega)
      refine J.seq ?_
      refine J.region_lit ?_
      refine JL.q rfl rfl rfl (QW.move (.tmp rfl)) ?_
      refine JL.q rfl rfl rfl (by first | exact QW.load_box 1 ty34 (.tmp rfl) rfl rfl rfl | exact QW.load_box 1 ty34 (.tmp rfl) rfl (take_at (EX.cs_length _ _) rfl) (EX.cs_length _ _)) ?_
      refine JL.callPF [.k, .k, .p] gofn49 rfl Lent.nil (fun _ => (.cons (.tmp rfl) (.cons (.tmp rfl) .nil))) (mover_ok (f := f - 1) ih Xc.mk ho (hwl _ (by simp)) (hwl _ (by simp)) (hfl _ (by simp)) (hfl _ (by simp)) (hsz _ (by simp)) (hsz _ (by simp)) hs h1) (.inl rfl) (fun k124 x124 o124 h124 => ?_) (fun k124 => ?_)
      rotate_left
      · skip
        refine thenQ.p ?_
        refine blkQ.p ?_
        refine thenQ.p ?_
        exact ⟨_, selP [.k, .k] _, _, rfl, rfl, sel_perm [.k, .k] _, EvR.er ((ev_over ho hlo).trans (er_of k124)) k124⟩
      obtain ⟨v124, f124, hv124, rfl, rfl⟩ := h124
      first | refine JL.store_boxF 0 ty29 (.tmp rfl) rfl (.tmp rfl) (by first | rfl | assumption) (by first | rfl | exact V.cs_length _ _) (by first | rfl | exact V.cs_length _ _) rfl ?_ | refine JL.store_box 0 ty29 (.tmp rfl) rfl (.tmp rfl) (by first | rfl | assumption) (by first | rfl | exact V.cs_length _ _) rfl rfl rfl ?_
      refine JL.nil ?_
      refine thenQ.n ?_
      refine J.ret ?_
      refine blkQ.r ?_
      refine thenQ.r ?_
      exact ⟨_, selP [.k, .k, .p] _, _, RetEv.one rfl (by first | exact REv.cell 0 ty29 rfl rfl rfl rfl (.refl _) | exact REv.cell 0 ty29 rfl rfl (take_at (V.cs_length _ _) rfl) (V.cs_length _ _) (.refl _)), rfl, sel_perm [.k, .k, .p] _, EvR.ok ((ev_over ho hlo).trans hv124)⟩
    have n29 : ¬ o = 29 := by simpa using c14
    have hpl : o = 23 ∨ (8 ≤ o ∧ o ≠ 18 ∧ o ≠ 19 ∧ o ≠ 21 ∧ o ≠ 27 ∧ o ≠ 28 ∧ o ≠ 29) := by omega
    refine J.skip ?_
    refine blkQ.n ?_
    refine thenQ.n ?_
    refine J.seq ?_
    refine J.region_lit ?_
    refine JL.q rfl rfl rfl (QW.assign .const) ?_
    refine JL.nil ?_
    refine thenQ.n ?_
    refine J.seq ?_
    refine J.seq ?_
    refine J.region_lit ?_
    refine JL.q rfl rfl rfl (QW.field_ptr fo34_3 (.tmp rfl) rfl) ?_
    refine JL.q rfl rfl rfl (QW.load_box1 1 ty32 (.tmp rfl) rfl rfl) ?_
    refine JL.q rfl rfl rfl (by first | exact QW.len_slE sl32 (.tmp rfl) (V.css_length _ _) | exact QW.len_slE sl32 (.tmp rfl) (EX.css_length _ _) | exact QW.len_sl sl32 (.tmp rfl) | exact QW.len_nil sl32 (.tmp rfl)) ?_
    refine JL.q rfl rfl rfl (QW.move .const) ?_
    refine JL.nil ?_
    refine thenQ.n ?_
    refine J.block ?_
    refine J.reown (Reown.nilArrE eV _) ?_
    refine J.loopK (ι := Nat × Value × List V × Int) [0, 3, 4, 126, 127] (fun ⟨j, v, vs, g1⟩ => [(128, .c (.int .i64 (j : Int))), (5, .c v)]) (fun ⟨j, v, vs, g1⟩ oo => List.set (List.set oo 3 (.arr v eV (V.css false vs))) 2 (mb b s g1)) (fun ⟨j, v, vs, g1⟩ => j ≤ l.length ∧ vs.length = j ∧ (∀ x ∈ vs, x.good) ∧ okF g1 ∧ EX.evs l s (f - 1) = joinV vs (EX.evs (l.drop j) s g1)) (fun ⟨j, v, vs, g1⟩ => l.length - j) ⟨0, .slice none 0 0, [], f - 1⟩ (⟨Nat.zero_le _, rfl, (fun _ h => by cases h), h1, joinV_nil _⟩) (Wk.re (.cons rfl (.refl _) (.cons rfl (.refl _) (.cons rfl (.refl _) (.cons rfl (.refl _) (.cons rfl (.refl _) (.cons rfl (.refl _) (.cons rfl (.refl _) .nil))))))) (Reown.refl _) (fun _ h => by first | exact h | simp [h])) ?_
    intro ⟨j, v, vs, g1⟩ ⟨hj, hvl, hvg, hg1, hevs⟩
    refine J.conv (by (try simp only [id_eq, stepsO, List.map_cons, List.map_nil, valO, nthO, curO, mrg, List.reverse_cons, List.reverse_nil, List.nil_append, List.cons_append, List.append_nil, List.getElem?_cons_zero, List.getElem?_cons_succ, Option.map_some, Option.getD_some, List.set_cons_zero, List.set_cons_succ, AV.cellsOf, splice_zero, splice_succ, Nat.zero_add, Nat.reduceAdd]); rfl) ?_
    refine J.seq ?_
    refine J.region_lit ?_
    refine JL.q rfl rfl rfl (QW.lss (.tmp rfl) (.tmp rfl)) ?_
    refine JL.nil ?_
    refine thenQ.n ?_
    refine J.seq ?_
    refine J.cond (.tmp rfl) (fun c15 => ?_) (fun c15 => ?_)
    · skip
      have hlt : j < l.length := by simpa [EX.css_length] using c15
      refine J.skip ?_
      refine thenQ.n ?_
      refine J.seq ?_
      refine J.block ?_
      refine J.seq ?_
      refine J.region_lit ?_
      refine JL.q rfl rfl rfl (QW.index_sl sl32 ty34 rfl (.tmp rfl) (.tmp rfl) (by first | rfl | omega | (simp; done)) (by exact EX.css_getE _ hlt)) ?_
      refine JL.q rfl rfl rfl (by first | exact QW.load_ref ty34 (.tmp rfl) rfl rfl | exact QW.load_ref ty34 (.tmp rfl) (take_at0 (EX.cs_length _ _) rfl) (EX.cs_length _ _)) ?_
      refine JL.alloc z34 rfl rfl fun b7 => ?_
      first | refine JL.store_boxF 0 ty34 (.tmp rfl) rfl (.tmp rfl) (by first | rfl | assumption) (by first | rfl | exact EX.cs_length _ _) (by first | rfl | exact EX.cs_length _ _) rfl ?_ | refine JL.store_box 0 ty34 (.tmp rfl) rfl (.tmp rfl) (by first | rfl | assumption) (by first | rfl | exact EX.cs_length _ _) rfl rfl rfl ?_
      refine JL.nil ?_
      refine thenQ.n ?_
      refine J.region_lit ?_
      refine JL.q rfl rfl rfl (QW.move (.tmp rfl)) ?_
      refine JL.q rfl rfl rfl (QW.move (.tmp rfl)) ?_
      refine JL.q rfl rfl rfl (by first | exact QW.load_box 0 ty34 (.tmp rfl) rfl rfl rfl | exact QW.load_box 0 ty34 (.tmp rfl) rfl (take_at (EX.cs_length _ _) rfl) (EX.cs_length _ _)) ?_
      refine JL.callPF [.k, .k, .k, .p] gofn33 rfl Lent.nil (fun _ => (.cons (.tmp rfl) (.cons (.tmp rfl) .nil))) (ih l[j] s g1 b fr (hwl _ (List.getElem_mem hlt)) (hfl _ (List.getElem_mem hlt)) hs hg1 (hsz _ (List.getElem_mem hlt))) (.inl rfl) (fun k135 x135 o135 h135 => ?_) (fun k135 => ?_)
      rotate_left
      · skip
        refine blkQ.p ?_
        refine thenQ.p ?_
        refine thenQ.p ?_
        refine blkQ.p ?_
        refine thenQ.p ?_
        exact ⟨_, selP [.k, .k, .k, .k] _, _, rfl, rfl, sel_perm [.k, .k, .k, .k] _, EvR.er ((ev_pl hlo hpl).trans (plE_no (hevs.trans (evs_bad hlt (er_of k135))))) k135⟩
      obtain ⟨v135, f135, hv135, rfl, rfl⟩ := h135
      refine JL.q rfl rfl rfl (QW.buildSlice (idx := [0]) (xs := [v135.cs false]) sl27 el29 z29 rfl (.cons (.tmp rfl) .nil) rfl rfl rfl rfl rfl (by exact fillOne (V.cs_length _ _)) rfl (allOne (V.cs_length _ _)) rfl) ?_
      refine JL.append 4 sl27 el29 rfl (.tmp rfl) rfl (srcA_sl sl27 (.tmp rfl)) (by rw [V.css_length]; show (_ + 1) * 80 ≤ _; unfold reach; omega) rfl fun v137 => ?_
      refine JL.q rfl rfl rfl (QW.assign (.tmp rfl)) ?_
      refine JL.nil ?_
      refine blkQ.n ?_
      refine thenQ.n ?_
      rw [css_snoc]
      refine J.region_lit ?_
      refine JL.q rfl rfl rfl (QW.add (.tmp rfl) .const (by first | exact w64n (by first | rfl | omega | (simp; done)) (by omega) | exact w64 (by omega) | rfl)) ?_
      refine JL.q rfl rfl rfl (QW.move (.tmp rfl)) ?_
      refine JL.nil ?_
      refine thenQ.n ?_
      rw [evs_step hlt hv135] at hevs
      obtain ⟨hgv, hfv⟩ := ev_okF (hwl _ (List.getElem_mem hlt)) (hfl _ (List.getElem_mem hlt)) hs hg1 hv135
      exact ⟨⟨j + 1, v137, vs ++ [v135], f135⟩, ⟨hlt, by simp [hvl], fun z hz => (List.mem_append.1 hz).elim (hvg z) (fun h => by rw [List.mem_singleton.1 h]; exact hgv), hfv, hevs⟩, by show l.length - (j + 1) < l.length - j; omega, Wk.re (.cons rfl (.refl _) (.cons rfl (.refl _) (.cons rfl (.refl _) (.cons rfl (.refl _) (.cons rfl (.refl _) (.cons rfl (.refl _) (.cons rfl (.refl _) .nil))))))) (Reown.dropN 1 _ rfl) (fun _ h => by first | exact h | simp [h])⟩
    have hge : l.length ≤ j := by simpa [EX.css_length] using c15
    refine J.exit ?_
    refine thenQ.x ?_
    refine thenQ.x ?_
    refine blkQ.hit ?_
    refine thenQ.n ?_
    refine J.seq ?_
    have hlj : j = l.length := by omega
    rw [List.drop_of_length_le hge, evs_done] at hevs
    refine J.closeArr 3 rfl (by rw [V.css_length]; show _ * 80 ≤ _; unfold reach; omega) rfl (fun z hz => by simp only [mb, fps_cons, fps_nil, Own.fp, List.append_nil, List.mem_singleton] at hz; subst hz; simp [mb, fps_cons, Own.fp]) ?_
    refine J.region_lit ?_
    refine JL.q rfl rfl rfl (by first | exact QW.load_box 1 ty34 (.tmp rfl) rfl rfl rfl | exact QW.load_box 1 ty34 (.tmp rfl) rfl (take_at (EX.cs_length _ _) rfl) (EX.cs_length _ _)) ?_
    refine JL.q rfl rfl rfl (QW.move (.tmp rfl)) ?_
    refine JL.callPF [] gofn50 rfl Lent.nil (fun _ => (.cons (.tmp rfl) (.cons (Ev.le (.tmp rfl) (.fact (by simp) (.slL (fr := true) (clip := false) (fun h => by cases h) rfl (V.css_sz false _) (.refl _)))) .nil))) (plain_ok Xc.mk htr hvg ⟨by omega, by omega⟩) (.inl rfl) (fun k141 x141 o141 h141 => ?_) (fun k141 => ?_)
    rotate_left
    · skip
      refine thenQ.p ?_
      exact ⟨_, selP [.k, .k, .k] _, _, rfl, rfl, sel_perm [.k, .k, .k] _, EvR.er ((ev_pl hlo hpl).trans (plE_er hevs (er_of k141))) k141⟩
    obtain ⟨v141, hv141, rfl, rfl⟩ := h141
    first | refine JL.store_boxF 0 ty29 (.tmp rfl) rfl (.tmp rfl) (by first | rfl | assumption) (by first | rfl | exact V.cs_length _ _) (by first | rfl | exact V.cs_length _ _) rfl ?_ | refine JL.store_box 0 ty29 (.tmp rfl) rfl (.tmp rfl) (by first | rfl | assumption) (by first | rfl | exact V.cs_length _ _) rfl rfl rfl ?_
    refine JL.nil ?_
    refine thenQ.n ?_
    refine J.ret ?_
    exact ⟨_, selP [.k, .k, .p] _, _, RetEv.one rfl (by first | exact REv.cell 0 ty29 rfl rfl rfl rfl (.refl _) | exact REv.cell 0 ty29 rfl rfl (take_at (V.cs_length _ _) rfl) (V.cs_length _ _) (.refl _)), rfl, sel_perm [.k, .k, .p] _, EvR.ok ((ev_pl hlo hpl).trans (plE_ok hevs hv141))⟩
end Go.Proofs.YtjhonjdhanlbkaaGreat.J

/- Walks: expressions, the small functions. -/
namespace Go.Proofs.YtjhonjdhanlbkaaGreat.J
open Go Go.RowKit
set_option maxRecDepth 10000
set_option maxHeartbeats 4000000
theorem within_ok (n l h : Int) : Fn Tryz.prog 91 [.c (.int .i64 n), .c (.int .i64 l), .c (.int .i64 h)] (.c (.bool (decide (l ≤ n) && decide (n ≤ h)))) := by
  refine AC.of_J Tryz.func91 rfl Tryz.ntmps91 rfl fun w0 A0 => ?_
  refine J.seq ?_
  refine J.region_lit ?_
  refine JL.q rfl rfl rfl (QW.assign .const) ?_
  refine JL.nil ?_
  refine thenQ.n ?_
  refine J.seq ?_
  refine J.region_lit ?_
  refine JL.q rfl rfl rfl (QW.move (.tmp rfl)) ?_
  refine JL.q rfl rfl rfl (QW.move (.tmp rfl)) ?_
  refine JL.q rfl rfl rfl (QW.geq (.tmp rfl) (.tmp rfl)) ?_
  refine JL.q rfl rfl rfl (QW.move (.tmp rfl)) ?_
  refine JL.g rfl rfl rfl rfl rfl (fun hg => (QW.move (.tmp rfl))) ?_
  refine JL.g rfl rfl rfl rfl rfl (fun hg => (QW.move (.tmp rfl))) ?_
  refine JL.g rfl rfl rfl rfl rfl (fun hg => (QW.leq (.when rfl hg) (.when rfl hg))) ?_
  refine JL.q rfl rfl rfl (QW.pick_and (.tmp rfl) (.tmp rfl)) ?_
  refine JL.q rfl rfl rfl (QW.assign (.tmp rfl)) ?_
  refine JL.nil ?_
  refine thenQ.n ?_
  refine J.ret ?_
  exact ⟨_, [], _, RetEv.one rfl (REv.tmp rfl (.refl _)), rfl, List.Perm.refl _, rfl, rfl⟩
theorem need_ok (ok : Bool) (e : Int) : AC Tryz.prog 64 [] [.c (.bool ok), .c (.int .i64 e)] (PanR (ok = true) (errV e) fun x o => x = .tup [] ∧ o = []) := by
  refine AC.of_J Tryz.func64 rfl Tryz.ntmps64 rfl fun w0 A0 => ?_
  refine J.seq ?_
  refine J.region_lit ?_
  refine JL.q rfl rfl rfl (QW.move (.tmp rfl)) ?_
  refine JL.q rfl rfl rfl (QW.not (.tmp rfl)) ?_
  refine JL.nil ?_
  refine thenQ.n ?_
  refine J.cond (.tmp rfl) (fun c1 => ?_) (fun c1 => ?_)
  · skip
    have hok : ok = false := by simpa using c1
    refine J.region_lit ?_
    refine JL.q rfl rfl rfl (QW.move (.tmp rfl)) ?_
    refine JL.q rfl rfl rfl (QW.mkIface ⟨_, Tryz.underlying38, by intro ms h; cases h⟩ (.tmp rfl)) ?_
    refine JL.panic (.tmp rfl) ?_
    exact ⟨_, selP [] _, _, rfl, rfl, sel_perm [] _, PanR.pan (by simp [hok])⟩
  have hok : ok = true := by simpa using c1
  refine J.skip ?_
  exact ⟨_, selP [] _, _, RetEv.none rfl , rfl, sel_perm [] _, PanR.ret hok ⟨rfl, rfl⟩⟩
def shLo (o : Int) : Int := if argsN o = -1 then 0 else if argsN o = -2 then 2 else argsN o
def shHi (o : Int) : Int := if argsN o = -1 then 8 else if argsN o = -2 then 2 else argsN o
theorem shape_eq {o : Int} {a b c d : Int} {k : Bool} (h : a = shLo o ∧ b = shHi o ∧ c = textLo o ∧ d = textHi o ∧ k = decide (argsN o ≠ -2)) :
    Res.ret (.tup [.agg [.c (.int .i64 a), .c (.int .i64 b), .c (.int .i64 c), .c (.int .i64 d)], .c (.bool k)]) = Res.ret (.tup [.agg [.c (.int .i64 (shLo o)), .c (.int .i64 (shHi o)), .c (.int .i64 (textLo o)), .c (.int .i64 (textHi o))], .c (.bool (decide (argsN o ≠ -2)))]) := by
  obtain ⟨rfl, rfl, rfl, rfl, rfl⟩ := h; rfl
theorem shapeOf_ok (o : Int) : Fn Tryz.prog 90 [.c (.int .i64 o)] (.tup [.agg [.c (.int .i64 (shLo o)), .c (.int .i64 (shHi o)), .c (.int .i64 (textLo o)), .c (.int .i64 (textHi o))], .c (.bool (decide (argsN o ≠ -2)))]) := by
  refine AC.of_J Tryz.func90 rfl Tryz.ntmps90 rfl fun w0 A0 => ?_
  refine J.seq ?_
  refine J.region_lit ?_
  refine JL.alloc z126 rfl rfl fun b2 => ?_
  refine JL.q rfl rfl rfl (QW.assign .const) ?_
  refine JL.nil ?_
  refine thenQ.n ?_
  refine J.seq ?_
  refine J.seq ?_
  refine J.region_lit ?_
  refine JL.q rfl rfl rfl (QW.move (.tmp rfl)) ?_
  refine JL.nil ?_
  refine thenQ.n ?_
  refine J.block ?_
  refine J.seq ?_
  refine J.seq ?_
  refine J.region_lit ?_
  refine JL.q rfl rfl rfl (QW.eql (.tmp rfl) .const) ?_
  refine JL.q rfl rfl rfl (QW.assign (.tmp rfl)) ?_
  refine JL.nil ?_
  refine thenQ.n ?_
  refine J.cond (.tmp rfl) (fun c1 => ?_) (fun c1 => ?_)
  · try (exfalso; simp at *; omega; done)
    all_goals
      refine J.skip ?_
      refine thenQ.n ?_
      refine J.cond (.tmp rfl) (fun c2 => ?_) (fun c2 => absurd c2 (by first | (rw [c1]; decide) | (simp at *; done) | (simp at *; omega)))
      refine J.seq ?_
      refine J.region_lit ?_
      refine JL.q rfl rfl rfl (QW.build (idx := []) pl126 z126 rfl .nil rfl rfl rfl rfl) ?_
      first | refine JL.store_boxF 0 ty126 (.tmp rfl) rfl (.tmp rfl) (by first | rfl | assumption) (by rfl) (by rfl) rfl ?_ | refine JL.store_box 0 ty126 (.tmp rfl) rfl (.tmp rfl) (by first | rfl | assumption) (by rfl) rfl rfl rfl ?_
      refine JL.q rfl rfl rfl (QW.assign .const) ?_
      refine JL.nil ?_
      refine thenQ.n ?_
      refine J.ret ?_
      refine blkQ.r ?_
      refine thenQ.r ?_
      exact ⟨_, [], _, RetEv.two rfl (REv.cell 0 ty126 rfl rfl rfl rfl (.refl _)) (REv.tmp rfl (.refl _)), rfl, List.Perm.refl _, shape_eq (by simp at *; unfold shLo shHi textLo textHi argsN; (repeat' split) <;> (try simp) <;> omega), rfl⟩
  try (exfalso; simp at *; omega; done)
  all_goals
    refine J.seq ?_
    refine J.region_lit ?_
    refine JL.q rfl rfl rfl (QW.eql (.tmp rfl) .const) ?_
    refine JL.q rfl rfl rfl (QW.assign (.tmp rfl)) ?_
    refine JL.nil ?_
    refine thenQ.n ?_
    refine J.cond (.tmp rfl) (fun c2 => ?_) (fun c2 => ?_)
    · try (exfalso; simp at *; omega; done)
      all_goals
        refine J.skip ?_
        refine thenQ.n ?_
        refine J.cond (.tmp rfl) (fun c3 => ?_) (fun c3 => absurd c3 (by first | (rw [c2]; decide) | (simp at *; done) | (simp at *; omega)))
        refine J.seq ?_
        refine J.region_lit ?_
        refine JL.q rfl rfl rfl (QW.build (idx := []) pl126 z126 rfl .nil rfl rfl rfl rfl) ?_
        first | refine JL.store_boxF 0 ty126 (.tmp rfl) rfl (.tmp rfl) (by first | rfl | assumption) (by rfl) (by rfl) rfl ?_ | refine JL.store_box 0 ty126 (.tmp rfl) rfl (.tmp rfl) (by first | rfl | assumption) (by rfl) rfl rfl rfl ?_
        refine JL.q rfl rfl rfl (QW.assign .const) ?_
        refine JL.nil ?_
        refine thenQ.n ?_
        refine J.ret ?_
        refine blkQ.r ?_
        refine thenQ.r ?_
        exact ⟨_, [], _, RetEv.two rfl (REv.cell 0 ty126 rfl rfl rfl rfl (.refl _)) (REv.tmp rfl (.refl _)), rfl, List.Perm.refl _, shape_eq (by simp at *; unfold shLo shHi textLo textHi argsN; (repeat' split) <;> (try simp) <;> omega), rfl⟩
    try (exfalso; simp at *; omega; done)
    all_goals
      refine J.seq ?_
      refine J.region_lit ?_
      refine JL.q rfl rfl rfl (QW.eql (.tmp rfl) .const) ?_
      refine JL.q rfl rfl rfl (QW.assign (.tmp rfl)) ?_
      refine JL.nil ?_
      refine thenQ.n ?_
      refine J.cond (.tmp rfl) (fun c3 => ?_) (fun c3 => ?_)
      · try (exfalso; simp at *; omega; done)
        all_goals
          refine J.skip ?_
          refine thenQ.n ?_
          refine J.cond (.tmp rfl) (fun c4 => ?_) (fun c4 => absurd c4 (by first | (rw [c3]; decide) | (simp at *; done) | (simp at *; omega)))
          refine J.seq ?_
          refine J.region_lit ?_
          refine JL.q rfl rfl rfl (QW.build (idx := []) pl126 z126 rfl .nil rfl rfl rfl rfl) ?_
          first | refine JL.store_boxF 0 ty126 (.tmp rfl) rfl (.tmp rfl) (by first | rfl | assumption) (by rfl) (by rfl) rfl ?_ | refine JL.store_box 0 ty126 (.tmp rfl) rfl (.tmp rfl) (by first | rfl | assumption) (by rfl) rfl rfl rfl ?_
          refine JL.q rfl rfl rfl (QW.assign .const) ?_
          refine JL.nil ?_
          refine thenQ.n ?_
          refine J.ret ?_
          refine blkQ.r ?_
          refine thenQ.r ?_
          exact ⟨_, [], _, RetEv.two rfl (REv.cell 0 ty126 rfl rfl rfl rfl (.refl _)) (REv.tmp rfl (.refl _)), rfl, List.Perm.refl _, shape_eq (by simp at *; unfold shLo shHi textLo textHi argsN; (repeat' split) <;> (try simp) <;> omega), rfl⟩
      try (exfalso; simp at *; omega; done)
      all_goals
        refine J.seq ?_
        refine J.region_lit ?_
        refine JL.q rfl rfl rfl (QW.eql (.tmp rfl) .const) ?_
        refine JL.q rfl rfl rfl (QW.assign (.tmp rfl)) ?_
        refine JL.nil ?_
        refine thenQ.n ?_
        refine J.cond (.tmp rfl) (fun c4 => ?_) (fun c4 => ?_)
        · try (exfalso; simp at *; omega; done)
          all_goals
            refine J.skip ?_
            refine thenQ.n ?_
            refine J.cond (.tmp rfl) (fun c5 => ?_) (fun c5 => absurd c5 (by first | (rw [c4]; decide) | (simp at *; done) | (simp at *; omega)))
            refine J.seq ?_
            refine J.region_lit ?_
            refine JL.q rfl rfl rfl (QW.build (idx := []) pl126 z126 rfl .nil rfl rfl rfl rfl) ?_
            first | refine JL.store_boxF 0 ty126 (.tmp rfl) rfl (.tmp rfl) (by first | rfl | assumption) (by rfl) (by rfl) rfl ?_ | refine JL.store_box 0 ty126 (.tmp rfl) rfl (.tmp rfl) (by first | rfl | assumption) (by rfl) rfl rfl rfl ?_
            refine JL.q rfl rfl rfl (QW.assign .const) ?_
            refine JL.nil ?_
            refine thenQ.n ?_
            refine J.ret ?_
            refine blkQ.r ?_
            refine thenQ.r ?_
            exact ⟨_, [], _, RetEv.two rfl (REv.cell 0 ty126 rfl rfl rfl rfl (.refl _)) (REv.tmp rfl (.refl _)), rfl, List.Perm.refl _, shape_eq (by simp at *; unfold shLo shHi textLo textHi argsN; (repeat' split) <;> (try simp) <;> omega), rfl⟩
        try (exfalso; simp at *; omega; done)
        all_goals
          refine J.seq ?_
          refine J.region_lit ?_
          refine JL.q rfl rfl rfl (QW.eql (.tmp rfl) .const) ?_
          refine JL.q rfl rfl rfl (QW.assign (.tmp rfl)) ?_
          refine JL.nil ?_
          refine thenQ.n ?_
          refine J.cond (.tmp rfl) (fun c5 => ?_) (fun c5 => ?_)
          · try (exfalso; simp at *; omega; done)
            all_goals
              refine J.skip ?_
              refine thenQ.n ?_
              refine J.cond (.tmp rfl) (fun c6 => ?_) (fun c6 => absurd c6 (by first | (rw [c5]; decide) | (simp at *; done) | (simp at *; omega)))
              refine J.seq ?_
              refine J.region_lit ?_
              refine JL.q rfl rfl rfl (QW.build (idx := []) pl126 z126 rfl .nil rfl rfl rfl rfl) ?_
              first | refine JL.store_boxF 0 ty126 (.tmp rfl) rfl (.tmp rfl) (by first | rfl | assumption) (by rfl) (by rfl) rfl ?_ | refine JL.store_box 0 ty126 (.tmp rfl) rfl (.tmp rfl) (by first | rfl | assumption) (by rfl) rfl rfl rfl ?_
              refine JL.q rfl rfl rfl (QW.assign .const) ?_
              refine JL.nil ?_
              refine thenQ.n ?_
              refine J.ret ?_
              refine blkQ.r ?_
              refine thenQ.r ?_
              exact ⟨_, [], _, RetEv.two rfl (REv.cell 0 ty126 rfl rfl rfl rfl (.refl _)) (REv.tmp rfl (.refl _)), rfl, List.Perm.refl _, shape_eq (by simp at *; unfold shLo shHi textLo textHi argsN; (repeat' split) <;> (try simp) <;> omega), rfl⟩
          try (exfalso; simp at *; omega; done)
          all_goals
            refine J.seq ?_
            refine J.region_lit ?_
            refine JL.q rfl rfl rfl (QW.eql (.tmp rfl) .const) ?_
            refine JL.q rfl rfl rfl (QW.assign (.tmp rfl)) ?_
            refine JL.nil ?_
            refine thenQ.n ?_
            refine J.cond (.tmp rfl) (fun c6 => ?_) (fun c6 => ?_)
            · try (exfalso; simp at *; omega; done)
              all_goals
                refine J.skip ?_
                refine thenQ.n ?_
                refine J.cond (.tmp rfl) (fun c7 => ?_) (fun c7 => absurd c7 (by first | (rw [c6]; decide) | (simp at *; done) | (simp at *; omega)))
                refine J.seq ?_
                refine J.region_lit ?_
                refine JL.q rfl rfl rfl (QW.build (idx := []) pl126 z126 rfl .nil rfl rfl rfl rfl) ?_
                first | refine JL.store_boxF 0 ty126 (.tmp rfl) rfl (.tmp rfl) (by first | rfl | assumption) (by rfl) (by rfl) rfl ?_ | refine JL.store_box 0 ty126 (.tmp rfl) rfl (.tmp rfl) (by first | rfl | assumption) (by rfl) rfl rfl rfl ?_
                refine JL.q rfl rfl rfl (QW.assign .const) ?_
                refine JL.nil ?_
                refine thenQ.n ?_
                refine J.ret ?_
                refine blkQ.r ?_
                refine thenQ.r ?_
                exact ⟨_, [], _, RetEv.two rfl (REv.cell 0 ty126 rfl rfl rfl rfl (.refl _)) (REv.tmp rfl (.refl _)), rfl, List.Perm.refl _, shape_eq (by simp at *; unfold shLo shHi textLo textHi argsN; (repeat' split) <;> (try simp) <;> omega), rfl⟩
            try (exfalso; simp at *; omega; done)
            all_goals
              refine J.region_lit ?_
              refine JL.q rfl rfl rfl (QW.eql (.tmp rfl) .const) ?_
              refine JL.q rfl rfl rfl (QW.assign (.tmp rfl)) ?_
              refine JL.nil ?_
              refine thenQ.n ?_
              refine J.cond (.tmp rfl) (fun c7 => ?_) (fun c7 => ?_)
              · try (exfalso; simp at *; omega; done)
                all_goals
                  refine J.seq ?_
                  refine J.region_lit ?_
                  refine JL.q rfl rfl rfl (QW.build (idx := []) pl126 z126 rfl .nil rfl rfl rfl rfl) ?_
                  first | refine JL.store_boxF 0 ty126 (.tmp rfl) rfl (.tmp rfl) (by first | rfl | assumption) (by rfl) (by rfl) rfl ?_ | refine JL.store_box 0 ty126 (.tmp rfl) rfl (.tmp rfl) (by first | rfl | assumption) (by rfl) rfl rfl rfl ?_
                  refine JL.q rfl rfl rfl (QW.assign .const) ?_
                  refine JL.nil ?_
                  refine thenQ.n ?_
                  refine J.ret ?_
                  refine blkQ.r ?_
                  refine thenQ.r ?_
                  exact ⟨_, [], _, RetEv.two rfl (REv.cell 0 ty126 rfl rfl rfl rfl (.refl _)) (REv.tmp rfl (.refl _)), rfl, List.Perm.refl _, shape_eq (by simp at *; unfold shLo shHi textLo textHi argsN; (repeat' split) <;> (try simp) <;> omega), rfl⟩
              try (exfalso; simp at *; omega; done)
              all_goals
                refine J.seq ?_
                refine J.region_lit ?_
                refine JL.q rfl rfl rfl (QW.eql (.tmp rfl) .const) ?_
                refine JL.q rfl rfl rfl (QW.assign (.tmp rfl)) ?_
                refine JL.nil ?_
                refine thenQ.n ?_
                refine J.cond (.tmp rfl) (fun c8 => ?_) (fun c8 => ?_)
                · try (exfalso; simp at *; omega; done)
                  all_goals
                    refine J.seq ?_
                    refine J.region_lit ?_
                    refine JL.q rfl rfl rfl (QW.build (idx := [3]) pl126 z126 rfl (.cons .const .nil) rfl rfl rfl rfl) ?_
                    first | refine JL.store_boxF 0 ty126 (.tmp rfl) rfl (.tmp rfl) (by first | rfl | assumption) (by rfl) (by rfl) rfl ?_ | refine JL.store_box 0 ty126 (.tmp rfl) rfl (.tmp rfl) (by first | rfl | assumption) (by rfl) rfl rfl rfl ?_
                    refine JL.q rfl rfl rfl (QW.assign .const) ?_
                    refine JL.nil ?_
                    refine thenQ.n ?_
                    refine J.ret ?_
                    refine blkQ.r ?_
                    refine thenQ.r ?_
                    exact ⟨_, [], _, RetEv.two rfl (REv.cell 0 ty126 rfl rfl rfl rfl (.refl _)) (REv.tmp rfl (.refl _)), rfl, List.Perm.refl _, shape_eq (by simp at *; unfold shLo shHi textLo textHi argsN; (repeat' split) <;> (try simp) <;> omega), rfl⟩
                try (exfalso; simp at *; omega; done)
                all_goals
                  refine J.seq ?_
                  refine J.region_lit ?_
                  refine JL.q rfl rfl rfl (QW.eql (.tmp rfl) .const) ?_
                  refine JL.q rfl rfl rfl (QW.assign (.tmp rfl)) ?_
                  refine JL.nil ?_
                  refine thenQ.n ?_
                  refine J.cond (.tmp rfl) (fun c9 => ?_) (fun c9 => ?_)
                  · try (exfalso; simp at *; omega; done)
                    all_goals
                      refine J.seq ?_
                      refine J.region_lit ?_
                      refine JL.q rfl rfl rfl (QW.build (idx := [0, 1, 2, 3]) pl126 z126 rfl (.cons .const (.cons .const (.cons .const (.cons .const .nil)))) rfl rfl rfl rfl) ?_
                      first | refine JL.store_boxF 0 ty126 (.tmp rfl) rfl (.tmp rfl) (by first | rfl | assumption) (by rfl) (by rfl) rfl ?_ | refine JL.store_box 0 ty126 (.tmp rfl) rfl (.tmp rfl) (by first | rfl | assumption) (by rfl) rfl rfl rfl ?_
                      refine JL.q rfl rfl rfl (QW.assign .const) ?_
                      refine JL.nil ?_
                      refine thenQ.n ?_
                      refine J.ret ?_
                      refine blkQ.r ?_
                      refine thenQ.r ?_
                      exact ⟨_, [], _, RetEv.two rfl (REv.cell 0 ty126 rfl rfl rfl rfl (.refl _)) (REv.tmp rfl (.refl _)), rfl, List.Perm.refl _, shape_eq (by simp at *; unfold shLo shHi textLo textHi argsN; (repeat' split) <;> (try simp) <;> omega), rfl⟩
                  try (exfalso; simp at *; omega; done)
                  all_goals
                    refine J.seq ?_
                    refine J.region_lit ?_
                    refine JL.q rfl rfl rfl (QW.eql (.tmp rfl) .const) ?_
                    refine JL.q rfl rfl rfl (QW.assign (.tmp rfl)) ?_
                    refine JL.nil ?_
                    refine thenQ.n ?_
                    refine J.cond (.tmp rfl) (fun c10 => ?_) (fun c10 => ?_)
                    · try (exfalso; simp at *; omega; done)
                      all_goals
                        refine J.seq ?_
                        refine J.region_lit ?_
                        refine JL.q rfl rfl rfl (QW.build (idx := [0, 1, 2, 3]) pl126 z126 rfl (.cons .const (.cons .const (.cons .const (.cons .const .nil)))) rfl rfl rfl rfl) ?_
                        first | refine JL.store_boxF 0 ty126 (.tmp rfl) rfl (.tmp rfl) (by first | rfl | assumption) (by rfl) (by rfl) rfl ?_ | refine JL.store_box 0 ty126 (.tmp rfl) rfl (.tmp rfl) (by first | rfl | assumption) (by rfl) rfl rfl rfl ?_
                        refine JL.q rfl rfl rfl (QW.assign .const) ?_
                        refine JL.nil ?_
                        refine thenQ.n ?_
                        refine J.ret ?_
                        refine blkQ.r ?_
                        refine thenQ.r ?_
                        exact ⟨_, [], _, RetEv.two rfl (REv.cell 0 ty126 rfl rfl rfl rfl (.refl _)) (REv.tmp rfl (.refl _)), rfl, List.Perm.refl _, shape_eq (by simp at *; unfold shLo shHi textLo textHi argsN; (repeat' split) <;> (try simp) <;> omega), rfl⟩
                    try (exfalso; simp at *; omega; done)
                    all_goals
                      refine J.seq ?_
                      refine J.seq ?_
                      refine J.region_lit ?_
                      refine JL.q rfl rfl rfl (QW.eql (.tmp rfl) .const) ?_
                      refine JL.q rfl rfl rfl (QW.assign (.tmp rfl)) ?_
                      refine JL.nil ?_
                      refine thenQ.n ?_
                      refine J.cond (.tmp rfl) (fun c11 => ?_) (fun c11 => ?_)
                      · try (exfalso; simp at *; omega; done)
                        all_goals
                          refine J.skip ?_
                          refine thenQ.n ?_
                          refine J.cond (.tmp rfl) (fun c12 => ?_) (fun c12 => absurd c12 (by first | (rw [c11]; decide) | (simp at *; done) | (simp at *; omega)))
                          refine J.seq ?_
                          refine J.region_lit ?_
                          refine JL.q rfl rfl rfl (QW.build (idx := [0, 1]) pl126 z126 rfl (.cons .const (.cons .const .nil)) rfl rfl rfl rfl) ?_
                          first | refine JL.store_boxF 0 ty126 (.tmp rfl) rfl (.tmp rfl) (by first | rfl | assumption) (by rfl) (by rfl) rfl ?_ | refine JL.store_box 0 ty126 (.tmp rfl) rfl (.tmp rfl) (by first | rfl | assumption) (by rfl) rfl rfl rfl ?_
                          refine JL.q rfl rfl rfl (QW.assign .const) ?_
                          refine JL.nil ?_
                          refine thenQ.n ?_
                          refine J.ret ?_
                          refine blkQ.r ?_
                          refine thenQ.r ?_
                          exact ⟨_, [], _, RetEv.two rfl (REv.cell 0 ty126 rfl rfl rfl rfl (.refl _)) (REv.tmp rfl (.refl _)), rfl, List.Perm.refl _, shape_eq (by simp at *; unfold shLo shHi textLo textHi argsN; (repeat' split) <;> (try simp) <;> omega), rfl⟩
                      try (exfalso; simp at *; omega; done)
                      all_goals
                        refine J.seq ?_
                        refine J.region_lit ?_
                        refine JL.q rfl rfl rfl (QW.eql (.tmp rfl) .const) ?_
                        refine JL.q rfl rfl rfl (QW.assign (.tmp rfl)) ?_
                        refine JL.nil ?_
                        refine thenQ.n ?_
                        refine J.cond (.tmp rfl) (fun c12 => ?_) (fun c12 => ?_)
                        · try (exfalso; simp at *; omega; done)
                          all_goals
                            refine J.skip ?_
                            refine thenQ.n ?_
                            refine J.cond (.tmp rfl) (fun c13 => ?_) (fun c13 => absurd c13 (by first | (rw [c12]; decide) | (simp at *; done) | (simp at *; omega)))
                            refine J.seq ?_
                            refine J.region_lit ?_
                            refine JL.q rfl rfl rfl (QW.build (idx := [0, 1]) pl126 z126 rfl (.cons .const (.cons .const .nil)) rfl rfl rfl rfl) ?_
                            first | refine JL.store_boxF 0 ty126 (.tmp rfl) rfl (.tmp rfl) (by first | rfl | assumption) (by rfl) (by rfl) rfl ?_ | refine JL.store_box 0 ty126 (.tmp rfl) rfl (.tmp rfl) (by first | rfl | assumption) (by rfl) rfl rfl rfl ?_
                            refine JL.q rfl rfl rfl (QW.assign .const) ?_
                            refine JL.nil ?_
                            refine thenQ.n ?_
                            refine J.ret ?_
                            refine blkQ.r ?_
                            refine thenQ.r ?_
                            exact ⟨_, [], _, RetEv.two rfl (REv.cell 0 ty126 rfl rfl rfl rfl (.refl _)) (REv.tmp rfl (.refl _)), rfl, List.Perm.refl _, shape_eq (by simp at *; unfold shLo shHi textLo textHi argsN; (repeat' split) <;> (try simp) <;> omega), rfl⟩
                        try (exfalso; simp at *; omega; done)
                        all_goals
                          refine J.seq ?_
                          refine J.region_lit ?_
                          refine JL.q rfl rfl rfl (QW.eql (.tmp rfl) .const) ?_
                          refine JL.q rfl rfl rfl (QW.assign (.tmp rfl)) ?_
                          refine JL.nil ?_
                          refine thenQ.n ?_
                          refine J.cond (.tmp rfl) (fun c13 => ?_) (fun c13 => ?_)
                          · try (exfalso; simp at *; omega; done)
                            all_goals
                              refine J.skip ?_
                              refine thenQ.n ?_
                              refine J.cond (.tmp rfl) (fun c14 => ?_) (fun c14 => absurd c14 (by first | (rw [c13]; decide) | (simp at *; done) | (simp at *; omega)))
                              refine J.seq ?_
                              refine J.region_lit ?_
                              refine JL.q rfl rfl rfl (QW.build (idx := [0, 1]) pl126 z126 rfl (.cons .const (.cons .const .nil)) rfl rfl rfl rfl) ?_
                              first | refine JL.store_boxF 0 ty126 (.tmp rfl) rfl (.tmp rfl) (by first | rfl | assumption) (by rfl) (by rfl) rfl ?_ | refine JL.store_box 0 ty126 (.tmp rfl) rfl (.tmp rfl) (by first | rfl | assumption) (by rfl) rfl rfl rfl ?_
                              refine JL.q rfl rfl rfl (QW.assign .const) ?_
                              refine JL.nil ?_
                              refine thenQ.n ?_
                              refine J.ret ?_
                              refine blkQ.r ?_
                              refine thenQ.r ?_
                              exact ⟨_, [], _, RetEv.two rfl (REv.cell 0 ty126 rfl rfl rfl rfl (.refl _)) (REv.tmp rfl (.refl _)), rfl, List.Perm.refl _, shape_eq (by simp at *; unfold shLo shHi textLo textHi argsN; (repeat' split) <;> (try simp) <;> omega), rfl⟩
                          try (exfalso; simp at *; omega; done)
                          all_goals
                            refine J.region_lit ?_
                            refine JL.q rfl rfl rfl (QW.eql (.tmp rfl) .const) ?_
                            refine JL.q rfl rfl rfl (QW.assign (.tmp rfl)) ?_
                            refine JL.nil ?_
                            refine thenQ.n ?_
                            refine J.cond (.tmp rfl) (fun c14 => ?_) (fun c14 => ?_)
                            · try (exfalso; simp at *; omega; done)
                              all_goals
                                refine J.seq ?_
                                refine J.region_lit ?_
                                refine JL.q rfl rfl rfl (QW.build (idx := [0, 1]) pl126 z126 rfl (.cons .const (.cons .const .nil)) rfl rfl rfl rfl) ?_
                                first | refine JL.store_boxF 0 ty126 (.tmp rfl) rfl (.tmp rfl) (by first | rfl | assumption) (by rfl) (by rfl) rfl ?_ | refine JL.store_box 0 ty126 (.tmp rfl) rfl (.tmp rfl) (by first | rfl | assumption) (by rfl) rfl rfl rfl ?_
                                refine JL.q rfl rfl rfl (QW.assign .const) ?_
                                refine JL.nil ?_
                                refine thenQ.n ?_
                                refine J.ret ?_
                                refine blkQ.r ?_
                                refine thenQ.r ?_
                                exact ⟨_, [], _, RetEv.two rfl (REv.cell 0 ty126 rfl rfl rfl rfl (.refl _)) (REv.tmp rfl (.refl _)), rfl, List.Perm.refl _, shape_eq (by simp at *; unfold shLo shHi textLo textHi argsN; (repeat' split) <;> (try simp) <;> omega), rfl⟩
                            try (exfalso; simp at *; omega; done)
                            all_goals
                              refine J.seq ?_
                              refine J.region_lit ?_
                              refine JL.q rfl rfl rfl (QW.eql (.tmp rfl) .const) ?_
                              refine JL.q rfl rfl rfl (QW.assign (.tmp rfl)) ?_
                              refine JL.nil ?_
                              refine thenQ.n ?_
                              refine J.cond (.tmp rfl) (fun c15 => ?_) (fun c15 => ?_)
                              · try (exfalso; simp at *; omega; done)
                                all_goals
                                  refine J.seq ?_
                                  refine J.region_lit ?_
                                  refine JL.q rfl rfl rfl (QW.build (idx := [0, 1]) pl126 z126 rfl (.cons .const (.cons .const .nil)) rfl rfl rfl rfl) ?_
                                  first | refine JL.store_boxF 0 ty126 (.tmp rfl) rfl (.tmp rfl) (by first | rfl | assumption) (by rfl) (by rfl) rfl ?_ | refine JL.store_box 0 ty126 (.tmp rfl) rfl (.tmp rfl) (by first | rfl | assumption) (by rfl) rfl rfl rfl ?_
                                  refine JL.q rfl rfl rfl (QW.assign .const) ?_
                                  refine JL.nil ?_
                                  refine thenQ.n ?_
                                  refine J.ret ?_
                                  refine blkQ.r ?_
                                  refine thenQ.r ?_
                                  exact ⟨_, [], _, RetEv.two rfl (REv.cell 0 ty126 rfl rfl rfl rfl (.refl _)) (REv.tmp rfl (.refl _)), rfl, List.Perm.refl _, shape_eq (by simp at *; unfold shLo shHi textLo textHi argsN; (repeat' split) <;> (try simp) <;> omega), rfl⟩
                              try (exfalso; simp at *; omega; done)
                              all_goals
                                refine J.seq ?_
                                refine J.region_lit ?_
                                refine JL.q rfl rfl rfl (QW.eql (.tmp rfl) .const) ?_
                                refine JL.q rfl rfl rfl (QW.assign (.tmp rfl)) ?_
                                refine JL.nil ?_
                                refine thenQ.n ?_
                                refine J.cond (.tmp rfl) (fun c16 => ?_) (fun c16 => ?_)
                                · try (exfalso; simp at *; omega; done)
                                  all_goals
                                    refine J.seq ?_
                                    refine J.region_lit ?_
                                    refine JL.q rfl rfl rfl (QW.build (idx := [1]) pl126 z126 rfl (.cons .const .nil) rfl rfl rfl rfl) ?_
                                    first | refine JL.store_boxF 0 ty126 (.tmp rfl) rfl (.tmp rfl) (by first | rfl | assumption) (by rfl) (by rfl) rfl ?_ | refine JL.store_box 0 ty126 (.tmp rfl) rfl (.tmp rfl) (by first | rfl | assumption) (by rfl) rfl rfl rfl ?_
                                    refine JL.q rfl rfl rfl (QW.assign .const) ?_
                                    refine JL.nil ?_
                                    refine thenQ.n ?_
                                    refine J.ret ?_
                                    refine blkQ.r ?_
                                    refine thenQ.r ?_
                                    exact ⟨_, [], _, RetEv.two rfl (REv.cell 0 ty126 rfl rfl rfl rfl (.refl _)) (REv.tmp rfl (.refl _)), rfl, List.Perm.refl _, shape_eq (by simp at *; unfold shLo shHi textLo textHi argsN; (repeat' split) <;> (try simp) <;> omega), rfl⟩
                                try (exfalso; simp at *; omega; done)
                                all_goals
                                  refine J.skip ?_
                                  refine blkQ.n ?_
                                  refine thenQ.n ?_
                                  refine J.seq ?_
                                  refine J.region_lit ?_
                                  refine JL.q rfl rfl rfl (QW.build (idx := [0, 1]) pl126 z126 rfl (.cons .const (.cons .const .nil)) rfl rfl rfl rfl) ?_
                                  refine JL.q rfl rfl rfl (QW.move (.tmp rfl)) ?_
                                  refine JL.q rfl rfl rfl (QW.gtr (.tmp rfl) .const) ?_
                                  refine JL.q rfl rfl rfl (QW.move (.tmp rfl)) ?_
                                  refine JL.g rfl rfl rfl rfl rfl (fun hg => (QW.move (.tmp rfl))) ?_
                                  refine JL.g rfl rfl rfl rfl rfl (fun hg => (QW.leq (.when rfl hg) .const)) ?_
                                  refine JL.q rfl rfl rfl (QW.pick_and (.tmp rfl) (.tmp rfl)) ?_
                                  first | refine JL.store_boxF 0 ty126 (.tmp rfl) rfl (.tmp rfl) (by first | rfl | assumption) (by rfl) (by rfl) rfl ?_ | refine JL.store_box 0 ty126 (.tmp rfl) rfl (.tmp rfl) (by first | rfl | assumption) (by rfl) rfl rfl rfl ?_
                                  refine JL.q rfl rfl rfl (QW.assign (.tmp rfl)) ?_
                                  refine JL.nil ?_
                                  refine thenQ.n ?_
                                  refine J.ret ?_
                                  exact ⟨_, [], _, RetEv.two rfl (REv.cell 0 ty126 rfl rfl rfl rfl (.refl _)) (REv.tmp rfl (.refl _)), rfl, List.Perm.refl _, shape_eq (by simp at *; unfold shLo shHi textLo textHi argsN; (repeat' split) <;> (try simp) <;> omega), rfl⟩
end Go.Proofs.YtjhonjdhanlbkaaGreat.J

/- Walks: expressions, one part. -/
namespace Go.Proofs.YtjhonjdhanlbkaaGreat.J
open Go Go.RowKit
set_option maxRecDepth 10000
set_option maxHeartbeats 4000000
theorem part_arith {q n lo hi tl : Int} {z : Bool} (hn : 0 ≤ n) (hq : q = -2 ∨ q = -1 ∨ (0 ≤ q ∧ q ≤ 3)) :
    ((decide (q ≠ -2) && z) && (decide ((if q = -1 then 0 else if q = -2 then 2 else q) ≤ n) && decide (n ≤ (if q = -1 then 8 else if q = -2 then 2 else q))) && (decide (lo ≤ tl) && decide (tl ≤ hi))) =
    (decide (q ≠ -2) && (q == -1 || (n == q)) && decide (n ≤ 8) && decide (lo ≤ tl) && decide (tl ≤ hi) && z) := by
  rw [Bool.eq_iff_iff]
  simp only [Bool.and_eq_true, Bool.or_eq_true, decide_eq_true_eq, beq_iff_eq]
  rcases hq with rfl | rfl | ⟨h4, h5⟩
  · simp
  · simp
    constructor
    · rintro ⟨⟨h6, h7, h7'⟩, h8, h9⟩; exact ⟨⟨⟨h7', h8⟩, h9⟩, h6⟩
    · rintro ⟨⟨⟨h6, h8⟩, h9⟩, h7⟩; exact ⟨⟨h7, by omega, h6⟩, h8, h9⟩
  · rw [if_neg (by omega), if_neg (by omega)]
    constructor
    · rintro ⟨⟨⟨h6, h7⟩, h8, h9⟩, h10, h11⟩; exact ⟨⟨⟨⟨⟨h6, .inr (by omega)⟩, by omega⟩, h10⟩, h11⟩, h7⟩
    · rintro ⟨⟨⟨⟨⟨h6, h12⟩, h13⟩, h10⟩, h11⟩, h7⟩
      have : n = q := h12.resolve_left (by omega)
      exact ⟨⟨⟨h6, h7⟩, by omega, by omega⟩, h10, h11⟩
theorem part_eq {o : Int} {b : Nat} {t : List UInt8} {l : List EX} {n : Int} (hn : n = (l.length : Int)) :
    ((decide (argsN o ≠ -2) && (((b : Int) == 0) || ((o == 3) && ((canonN b : Int) == (b : Int))))) && (decide (shLo o ≤ n) && decide (n ≤ shHi o)) && (decide (textLo o ≤ (t.length : Int)) && decide ((t.length : Int) ≤ textHi o))) = (EX.mk o b t l).ok := by
  subst hn
  have hz : canonN 0 = 0 := by decide
  have h1 : (((b : Int) == 0) || ((o == 3) && ((canonN b : Int) == (b : Int)))) = (if o = 3 then canonN b == b else b == 0) := by
    by_cases h3 : o = 3
    · subst h3
      rw [if_pos rfl, Bool.eq_iff_iff]
      simp
      constructor
      · rintro (h | h)
        · have : b = 0 := by omega
          rw [this, hz]
        · omega
      · intro h; right; rw [h]
    · rw [if_neg h3, Bool.eq_iff_iff]
      simp [h3]
  have ha : argsN o = -2 ∨ argsN o = -1 ∨ (0 ≤ argsN o ∧ argsN o ≤ 3) := by unfold argsN; (repeat' split) <;> omega
  rw [h1]
  exact part_arith (by omega) ha
theorem epart_ok {fr : Bool} {v : EX} {ys : List AV} (hv : Xc fr v ys) : Fn Tryz.prog 65 [.agg ys] (.c (.bool v.ok)) := by
  obtain ⟨o, b, t, l⟩ := v
  subst hv
  refine AC.of_J Tryz.func65 rfl Tryz.ntmps65 rfl fun w0 A0 => ?_
  refine J.seq ?_
  refine J.region_lit ?_
  refine JL.box_agg (.tmp rfl) rfl fun b1 => ?_
  refine JL.q rfl rfl rfl (QW.assign .const) ?_
  refine JL.nil ?_
  refine thenQ.n ?_
  refine J.seq ?_
  refine J.region_lit ?_
  refine JL.q rfl rfl rfl (QW.field_ptr fo34_0 (.tmp rfl) rfl) ?_
  refine JL.q rfl rfl rfl (QW.load_box1 0 ty3 (.tmp rfl) rfl rfl) ?_
  refine JL.q rfl rfl rfl (QW.call gofn90 (.cons (.tmp rfl) .nil) (shapeOf_ok _)) ?_
  refine JL.q rfl rfl rfl (QW.move (.tmp rfl)) ?_
  refine JL.q rfl rfl rfl (QW.extract (.tmp rfl) rfl) ?_
  refine JL.q rfl rfl rfl (QW.extract (.tmp rfl) rfl) ?_
  refine JL.alloc z126 rfl rfl fun b3 => ?_
  first | refine JL.store_boxF 0 ty126 (.tmp rfl) rfl (.tmp rfl) (by first | rfl | assumption) (by rfl) (by rfl) rfl ?_ | refine JL.store_box 0 ty126 (.tmp rfl) rfl (.tmp rfl) (by first | rfl | assumption) (by rfl) rfl rfl rfl ?_
  refine JL.q rfl rfl rfl (QW.assign (.tmp rfl)) ?_
  refine JL.nil ?_
  refine thenQ.n ?_
  refine J.seq ?_
  refine J.region_tailK 13 mixed (by kernel_rfl) (by kernel_rfl) (by kernel_rfl) rfl ?_
  refine .cons [] rfl rfl rfl (.q rfl (QW.field_ptr fo34_1 (.tmp rfl) rfl)) ?_
  refine .cons [12] rfl rfl rfl (.q rfl (QW.load_box1 1 ty22 (.tmp rfl) rfl rfl)) ?_
  refine .cons [13] rfl rfl rfl (.q rfl (QW.eql (.tmp rfl) .const)) ?_
  refine .cons [14] rfl rfl rfl (.q rfl (QW.move (.tmp rfl))) ?_
  refine .cons [15] rfl rfl rfl (.g rfl rfl rfl (fun hg => (QW.field_ptr fo34_0 (.tmp rfl) rfl))) ?_
  refine .cons [16, 15] rfl rfl rfl (.g rfl rfl rfl (fun hg => (QW.load_box1 1 ty3 (.when rfl hg) rfl rfl))) ?_
  refine .cons [17, 15] rfl rfl rfl (.g rfl rfl rfl (fun hg => (QW.eql (.when rfl hg) .const))) ?_
  refine .cons [18, 15] rfl rfl rfl (.g rfl rfl rfl (fun hg => (QW.move (.when rfl hg)))) ?_
  refine .cons [19] rfl rfl rfl (.gg rfl rfl rfl (fun hg => (QW.field_ptr fo34_1 (.tmp rfl) rfl))) ?_
  refine .cons [20, 19] rfl rfl rfl (.gg rfl rfl rfl (fun hg => (QW.load_box1 1 ty22 (.when rfl hg) rfl rfl))) ?_
  refine .cons [21, 19] rfl rfl rfl (.gg rfl rfl rfl (fun hg => (QW.call gofn87 (.cons (.when rfl hg) .nil) (canon_ok _)))) ?_
  refine .cons [19] rfl rfl rfl (.gg rfl rfl rfl (fun hg => (QW.field_ptr fo34_1 (.tmp rfl) rfl))) ?_
  refine .cons [23, 19] rfl rfl rfl (.gg rfl rfl rfl (fun hg => (QW.load_box1 1 ty22 (.when rfl hg) rfl rfl))) ?_
  refine .nil ?_
  refine JL.gg rfl rfl rfl rfl rfl (fun hg => (QW.eql (.when rfl hg) (.when rfl hg))) ?_
  refine JL.g rfl rfl rfl rfl rfl (fun hg => (by first | exact QW.pick_and (.when rfl hg) (.tmp rfl) | exact QW.pick_and2 hg (.when rfl hg) (.tmp rfl))) ?_
  refine JL.q rfl rfl rfl (QW.pick_or (.tmp rfl) (.tmp rfl)) ?_
  refine JL.q rfl rfl rfl (QW.assign (.tmp rfl)) ?_
  refine JL.nil ?_
  refine thenQ.n ?_
  refine J.seq ?_
  refine J.region_lit ?_
  refine JL.q rfl rfl rfl (QW.move (.tmp rfl)) ?_
  refine JL.q rfl rfl rfl (QW.move (.tmp rfl)) ?_
  refine JL.g rfl rfl rfl rfl rfl (fun hg => (QW.move (.tmp rfl))) ?_
  refine JL.q rfl rfl rfl (QW.pick_and (.tmp rfl) (.tmp rfl)) ?_
  refine JL.q rfl rfl rfl (QW.move (.tmp rfl)) ?_
  refine JL.g rfl rfl rfl rfl rfl (fun hg => (QW.field_ptr fo34_3 (.tmp rfl) rfl)) ?_
  refine JL.g rfl rfl rfl rfl rfl (fun hg => (QW.load_box1 1 ty32 (.when rfl hg) rfl rfl)) ?_
  refine JL.g rfl rfl rfl rfl rfl (fun hg => (by first | exact QW.len_sl sl32 (.when rfl hg) | exact QW.len_nil sl32 (.when rfl hg))) ?_
  refine JL.g rfl rfl rfl rfl rfl (fun hg => (QW.field_ptr fo126_0 (.tmp rfl) rfl)) ?_
  refine JL.g rfl rfl rfl rfl rfl (fun hg => (QW.load_box1 0 ty3 (.when rfl hg) rfl rfl)) ?_
  refine JL.g rfl rfl rfl rfl rfl (fun hg => (QW.field_ptr fo126_1 (.tmp rfl) rfl)) ?_
  refine JL.g rfl rfl rfl rfl rfl (fun hg => (QW.load_box1 0 ty3 (.when rfl hg) rfl rfl)) ?_
  refine JL.g rfl rfl rfl rfl rfl (fun hg => (QW.call gofn91 (.cons (.when rfl hg) (.cons (.when rfl hg) (.cons (.when rfl hg) .nil))) (within_ok _ _ _))) ?_
  refine JL.q rfl rfl rfl (QW.pick_and (.tmp rfl) (.tmp rfl)) ?_
  refine JL.q rfl rfl rfl (QW.move (.tmp rfl)) ?_
  refine JL.g rfl rfl rfl rfl rfl (fun hg => (QW.field_ptr fo34_2 (.tmp rfl) rfl)) ?_
  refine JL.g rfl rfl rfl rfl rfl (fun hg => (QW.load_box1 1 ty9 (.when rfl hg) rfl rfl)) ?_
  refine JL.g rfl rfl rfl rfl rfl (fun hg => (QW.len_s st9 (.when rfl hg))) ?_
  refine JL.g rfl rfl rfl rfl rfl (fun hg => (QW.field_ptr fo126_2 (.tmp rfl) rfl)) ?_
  refine JL.g rfl rfl rfl rfl rfl (fun hg => (QW.load_box1 0 ty3 (.when rfl hg) rfl rfl)) ?_
  refine JL.g rfl rfl rfl rfl rfl (fun hg => (QW.field_ptr fo126_3 (.tmp rfl) rfl)) ?_
  refine JL.g rfl rfl rfl rfl rfl (fun hg => (QW.load_box1 0 ty3 (.when rfl hg) rfl rfl)) ?_
  refine JL.g rfl rfl rfl rfl rfl (fun hg => (QW.call gofn91 (.cons (.when rfl hg) (.cons (.when rfl hg) (.cons (.when rfl hg) .nil))) (within_ok _ _ _))) ?_
  refine JL.q rfl rfl rfl (QW.pick_and (.tmp rfl) (.tmp rfl)) ?_
  refine JL.q rfl rfl rfl (QW.assign (.tmp rfl)) ?_
  refine JL.nil ?_
  refine thenQ.n ?_
  refine J.ret ?_
  exact ⟨_, selP [.k, .k] _, _, RetEv.one rfl (REv.tmp rfl (.refl _)), rfl, sel_perm [.k, .k] _, ⟨by rw [← part_eq (n := ((EX.css fr l).length : Int)) (by rw [EX.css_length])], rfl⟩⟩
end Go.Proofs.YtjhonjdhanlbkaaGreat.J

/- Walks: expressions, the page's own small functions. -/
namespace Go.Proofs.YtjhonjdhanlbkaaGreat.J
open Go Go.RowKit
set_option maxRecDepth 10000
set_option maxHeartbeats 4000000
end Go.Proofs.YtjhonjdhanlbkaaGreat.J

/- Walks: both walks over an expression. -/
namespace Go.Proofs.YtjhonjdhanlbkaaGreat.J
open Go Go.RowKit
set_option maxRecDepth 10000
set_option maxHeartbeats 4000000
theorem EX.chks_cons {is : List EX} {j : Nat} (h : j < is.length) (lev n : Int) : EX.chks (is.drop j) lev n = if (EX.chk is[j] (lev + 1) n).1 ≠ 0 then EX.chk is[j] (lev + 1) n else EX.chks (is.drop (j + 1)) lev (EX.chk is[j] (lev + 1) n).2 := by
  rw [List.drop_eq_getElem_cons h, EX.chks]
theorem EX.depths_cons {is : List EX} {j : Nat} (h : j < is.length) : EX.depths (is.drop j) = max is[j].depth (EX.depths (is.drop (j + 1))) := by
  rw [List.drop_eq_getElem_cons h, EX.depths]
def EWR (v : EX) (lev p d : Int) (bw : Nat) : Res → List Own → Prop := PanR ((v.chk lev p).1 = 0) (errV (v.chk lev p).1) fun x o => x = .tup [] ∧ o = [wk bw (v.chk lev p).2 (max d (lev + v.depth - 1))]
theorem ewalk_n  : ∀ (n : Nat) {v : EX} {ys : List AV} {fr : Bool} {lev p d : Int} {bw : Nat}, Xc fr v ys → v.wf → 1 ≤ lev ∧ lev ≤ 9 → 0 ≤ p ∧ p ≤ 64 → v.sz ≤ n →
    AC Tryz.prog 42 [wk bw p d] [.c (.pointer (some ⟨bw, 0, none⟩)), .agg ys, .c (.int .i64 lev)] (EWR v lev p d bw) := by
  intro n
  induction n with
  | zero => intro v ys fr lev p d bw hv hw hl hp h; exact absurd h (by have := EX.sz_pos v; omega)
  | succ n ih =>
    intro v ys fr lev p d bw hv hw hl hp hn
    obtain ⟨o, b, t, is⟩ := v
    subst hv
    obtain ⟨-, -, -, hi80, hwi⟩ := hw.inv
    have hi64 : is.length ≤ 9223372036854775806 := by unfold reach at hi80; omega
    refine AC.of_J Tryz.func42 rfl Tryz.ntmps42 rfl fun w0 A0 => ?_
    refine J.seq ?_
    refine J.region_lit ?_
    refine JL.box_agg (.tmp rfl) rfl fun b4 => ?_
    refine JL.nil ?_
    refine thenQ.n ?_
    refine J.seq ?_
    refine J.region_lit ?_
    refine JL.q rfl rfl rfl (QW.move (.tmp rfl)) ?_
    refine JL.q rfl rfl rfl (QW.leq (.tmp rfl) .const) ?_
    refine JL.callPF [] gofn64 rfl Lent.nil (fun _ => (.cons (.tmp rfl) (.cons .const .nil))) (need_ok _ _) (.inl rfl) (fun k10 x10 o10 h10 => ?_) (fun k10 => ?_)
    rotate_left
    · skip
      refine thenQ.p ?_
      exact ⟨_, selP [.k, .k] _, _, rfl, rfl, sel_perm [.k, .k] _, PanR.of (by simp [EX.chk, show 8 < lev by simpa using k10]) (by decide)⟩
    obtain ⟨rfl, rfl⟩ := h10
    refine JL.nil ?_
    refine thenQ.n ?_
    refine J.seq ?_
    refine J.region_lit ?_
    have hk10 : lev ≤ 8 := by simpa using k10
    refine JL.q rfl rfl rfl (QW.move (.tmp rfl)) ?_
    refine JL.q rfl rfl rfl (QW.nil_ptr (.tmp rfl)) ?_
    refine JL.q rfl rfl rfl (QW.field_ptr fo83_0 (.tmp rfl) rfl) ?_
    refine JL.q rfl rfl rfl (QW.load_box1 1 ty3 (.tmp rfl) rfl rfl) ?_
    refine JL.q rfl rfl rfl (QW.lss (.tmp rfl) .const) ?_
    refine JL.callPF [] gofn64 rfl Lent.nil (fun _ => (.cons (.tmp rfl) (.cons .const .nil))) (need_ok _ _) (.inl rfl) (fun k16 x16 o16 h16 => ?_) (fun k16 => ?_)
    rotate_left
    · skip
      refine thenQ.p ?_
      exact ⟨_, selP [.k, .k] _, _, rfl, rfl, sel_perm [.k, .k] _, PanR.of (by simp [EX.chk, show ¬ 8 < lev by omega, show 64 ≤ p by simpa using k16]) (by decide)⟩
    obtain ⟨rfl, rfl⟩ := h16
    refine JL.nil ?_
    refine thenQ.n ?_
    refine J.seq ?_
    refine J.region_lit ?_
    have hk16 : p < 64 := by simpa using k16
    refine JL.q rfl rfl rfl (by first | exact QW.load_box 0 ty34 (.tmp rfl) rfl rfl rfl | exact QW.load_box 0 ty34 (.tmp rfl) rfl (take_at (EX.cs_length _ _) rfl) (EX.cs_length _ _)) ?_
    refine JL.q rfl rfl rfl (QW.call gofn65 (.cons (.tmp rfl) .nil) (epart_ok Xc.mk)) ?_
    refine JL.callPF [] gofn64 rfl Lent.nil (fun _ => (.cons (.tmp rfl) (.cons .const .nil))) (need_ok _ _) (.inl rfl) (fun k19 x19 o19 h19 => ?_) (fun k19 => ?_)
    rotate_left
    · skip
      refine thenQ.p ?_
      exact ⟨_, selP [.k, .k] _, _, rfl, rfl, sel_perm [.k, .k] _, PanR.of (by simp [EX.chk, show ¬ 8 < lev by omega, show ¬ 64 ≤ p by omega, show (EX.mk o b t is).ok = false by simpa using k19]) (by decide)⟩
    obtain ⟨rfl, rfl⟩ := h19
    refine JL.nil ?_
    refine thenQ.n ?_
    refine J.seq ?_
    refine J.region_lit ?_
    have hk19 : (EX.mk o b t is).ok = true := k19
    refine JL.q rfl rfl rfl (QW.move (.tmp rfl)) ?_
    refine JL.q rfl rfl rfl (QW.nil_ptr (.tmp rfl)) ?_
    refine JL.q rfl rfl rfl (QW.field_ptr fo83_0 (.tmp rfl) rfl) ?_
    refine JL.q rfl rfl rfl (QW.load_box1 1 ty3 (.tmp rfl) rfl rfl) ?_
    refine JL.q rfl rfl rfl (QW.add (.tmp rfl) .const (by first | exact w64n (by first | rfl | omega | (simp; done)) (by omega) | exact w64 (by omega) | rfl)) ?_
    refine JL.q rfl rfl rfl (QW.nil_ptr (.tmp rfl)) ?_
    refine JL.q rfl rfl rfl (QW.field_ptr fo83_0 (.tmp rfl) rfl) ?_
    refine JL.store_box 1 ty3 (.tmp rfl) rfl (.tmp rfl) (by first | rfl | assumption) rfl rfl rfl rfl ?_
    refine JL.nil ?_
    refine thenQ.n ?_
    refine J.seq ?_
    refine J.region_lit ?_
    refine JL.q rfl rfl rfl (QW.move (.tmp rfl)) ?_
    refine JL.q rfl rfl rfl (QW.move (.tmp rfl)) ?_
    refine JL.q rfl rfl rfl (QW.nil_ptr (.tmp rfl)) ?_
    refine JL.q rfl rfl rfl (QW.field_ptr fo83_1 (.tmp rfl) rfl) ?_
    refine JL.q rfl rfl rfl (QW.load_box1 1 ty3 (.tmp rfl) rfl rfl) ?_
    refine JL.q rfl rfl rfl (QW.move (.tmp rfl)) ?_
    refine JL.q rfl rfl rfl (QW.max2 (.tmp rfl) (.tmp rfl)) ?_
    refine JL.q rfl rfl rfl (QW.nil_ptr (.tmp rfl)) ?_
    refine JL.q rfl rfl rfl (QW.field_ptr fo83_1 (.tmp rfl) rfl) ?_
    refine JL.store_box 1 ty3 (.tmp rfl) rfl (.tmp rfl) (by first | rfl | assumption) rfl rfl rfl rfl ?_
    refine JL.nil ?_
    refine thenQ.n ?_
    refine J.seq ?_
    refine J.region_lit ?_
    refine JL.q rfl rfl rfl (QW.field_ptr fo34_3 (.tmp rfl) rfl) ?_
    refine JL.q rfl rfl rfl (QW.load_box1 0 ty32 (.tmp rfl) rfl rfl) ?_
    refine JL.q rfl rfl rfl (by first | exact QW.len_sl sl32 (.tmp rfl) | exact QW.len_nil sl32 (.tmp rfl)) ?_
    refine JL.q rfl rfl rfl (QW.move .const) ?_
    refine JL.nil ?_
    refine thenQ.n ?_
    refine J.block ?_
    have hck : EX.chk (.mk o b t is) lev p = EX.chks is lev (p + 1) := by unfold EX.chk; rw [if_neg (by omega), if_neg (by omega), if_neg (by simp [hk19])]
    refine J.loopK (ι := Nat × Int × Int) [0, 2, 37, 38] (fun ⟨j, q, e⟩ => [(39, .c (.int .i64 (j : Int)))]) (fun ⟨j, q, e⟩ oo => List.set oo 1 (wk bw q e)) (fun ⟨j, q, e⟩ => j ≤ is.length ∧ EX.chks is lev (p + 1) = EX.chks (is.drop j) lev q ∧ max e (lev + EX.depths (is.drop j)) = max d (lev + EX.depths is) ∧ (0 ≤ q ∧ q ≤ 64 ∧ lev ≤ e)) (fun ⟨j, q, e⟩ => is.length - j) ⟨0, p + 1, if lev > d then lev else d⟩ (⟨Nat.zero_le _, rfl, by have := EX.depths_nonneg is; rw [List.drop_zero]; split <;> omega, by split <;> omega⟩) (Wk.re (.cons rfl (.refl _) (.cons rfl (.refl _) (.cons rfl (.refl _) (.cons rfl (.refl _) (.cons rfl (.refl _) .nil))))) (Reown.refl _) (fun _ h => by first | exact h | simp [h])) ?_
    intro ⟨j, q, e⟩ ⟨hj, hcs, hde, hq⟩
    refine J.conv (by (try simp only [id_eq, stepsO, List.map_cons, List.map_nil, valO, nthO, curO, mrg, List.reverse_cons, List.reverse_nil, List.nil_append, List.cons_append, List.append_nil, List.getElem?_cons_zero, List.getElem?_cons_succ, Option.map_some, Option.getD_some, List.set_cons_zero, List.set_cons_succ, AV.cellsOf, splice_zero, splice_succ, Nat.zero_add, Nat.reduceAdd]); rfl) ?_
    refine J.seq ?_
    refine J.region_lit ?_
    refine JL.q rfl rfl rfl (QW.lss (.tmp rfl) (.tmp rfl)) ?_
    refine JL.nil ?_
    refine thenQ.n ?_
    refine J.seq ?_
    refine J.cond (.tmp rfl) (fun c1 => ?_) (fun c1 => ?_)
    · skip
      have hlt : j < is.length := by simpa [EX.css_length] using c1
      refine J.skip ?_
      refine thenQ.n ?_
      refine J.seq ?_
      refine J.block ?_
      refine J.seq ?_
      refine J.region_lit ?_
      refine JL.q rfl rfl rfl (QW.index_sl sl32 ty34 rfl (.tmp rfl) (.tmp rfl) (by first | rfl | omega | (simp; done)) (by exact EX.css_getE _ hlt)) ?_
      refine JL.q rfl rfl rfl (by first | exact QW.load_ref ty34 (.tmp rfl) rfl rfl | exact QW.load_ref ty34 (.tmp rfl) (take_at0 (EX.cs_length _ _) rfl) (EX.cs_length _ _)) ?_
      refine JL.alloc z34 rfl rfl fun b7 => ?_
      first | refine JL.store_boxF 0 ty34 (.tmp rfl) rfl (.tmp rfl) (by first | rfl | assumption) (by first | rfl | exact EX.cs_length _ _) (by first | rfl | exact EX.cs_length _ _) rfl ?_ | refine JL.store_box 0 ty34 (.tmp rfl) rfl (.tmp rfl) (by first | rfl | assumption) (by first | rfl | exact EX.cs_length _ _) rfl rfl rfl ?_
      refine JL.nil ?_
      refine thenQ.n ?_
      refine J.region_lit ?_
      refine JL.q rfl rfl rfl (QW.move (.tmp rfl)) ?_
      refine JL.q rfl rfl rfl (by first | exact QW.load_box 0 ty34 (.tmp rfl) rfl rfl rfl | exact QW.load_box 0 ty34 (.tmp rfl) rfl (take_at (EX.cs_length _ _) rfl) (EX.cs_length _ _)) ?_
      refine JL.q rfl rfl rfl (QW.move (.tmp rfl)) ?_
      refine JL.q rfl rfl rfl (QW.add (.tmp rfl) .const (by first | exact w64n (by first | rfl | omega | (simp; done)) (by omega) | exact w64 (by omega) | rfl)) ?_
      refine JL.callPF [.k, .k, .p] gofn42 rfl Lent.nil (fun _ => (.cons (.tmp rfl) (.cons (.tmp rfl) (.cons (.tmp rfl) .nil)))) (ih (by first | exact Xc.self | exact Xc.mk) (hwi _ (List.getElem_mem _)) (by omega) (by omega) (EX.sz_get hn hlt)) (.inl rfl) (fun k47 x47 o47 h47 => ?_) (fun k47 => ?_)
      rotate_left
      · skip
        refine blkQ.p ?_
        refine thenQ.p ?_
        refine thenQ.p ?_
        refine blkQ.p ?_
        rw [EX.chks_cons hlt, if_pos k47] at hcs
        have he := hck.trans hcs
        exact ⟨_, selP [.k, .k] _, _, rfl, rfl, sel_perm [.k, .k] _, PanR.of (by rw [he]) k47⟩
      obtain ⟨rfl, rfl⟩ := h47
      refine JL.nil ?_
      refine blkQ.n ?_
      refine thenQ.n ?_
      refine J.region_lit ?_
      refine JL.q rfl rfl rfl (QW.add (.tmp rfl) .const (by first | exact w64n (by first | rfl | omega | (simp; done)) (by omega) | exact w64 (by omega) | rfl)) ?_
      refine JL.q rfl rfl rfl (QW.move (.tmp rfl)) ?_
      refine JL.nil ?_
      refine thenQ.n ?_
      have hb := EX.chk_bounds is[j] (lev + 1) q
      rw [EX.chks_cons hlt, if_neg (by simp [k47])] at hcs
      rw [EX.depths_cons hlt] at hde
      exact ⟨⟨j + 1, (EX.chk is[j] (lev + 1) q).2, max e (lev + 1 + is[j].depth - 1)⟩, ⟨hlt, hcs, by omega, by omega⟩, by show is.length - (j + 1) < is.length - j; omega, Wk.re (.cons rfl (.refl _) (.cons rfl (.refl _) (.cons rfl (.refl _) (.cons rfl (.refl _) (.cons rfl (.refl _) .nil))))) (Reown.dropN 1 _ rfl) (fun _ h => by first | exact h | simp [h])⟩
    have hge : is.length ≤ j := by simpa [EX.css_length] using c1
    refine J.exit ?_
    refine thenQ.x ?_
    refine thenQ.x ?_
    refine blkQ.hit ?_
    obtain rfl : j = is.length := by omega
    simp only [List.drop_length, EX.chks, EX.depths] at hcs hde
    have he := hck.trans hcs
    exact ⟨_, selP [.k, .p] _, _, RetEv.none rfl , rfl, sel_perm [.k, .p] _, PanR.ret (by rw [he]) ⟨rfl, by rw [he]; unfold EX.depth; rw [show max d (lev + (1 + EX.depths is) - 1) = e by omega]; rfl⟩⟩
end Go.Proofs.YtjhonjdhanlbkaaGreat.J

/- Walks: sizes, checks of expressions; are two one. -/
namespace Go.Proofs.YtjhonjdhanlbkaaGreat.J
open Go Go.RowKit
set_option maxRecDepth 10000
set_option maxHeartbeats 4000000
theorem told_nil (c : Nat) (z : Int) : AC Tryz.prog 41 [ibox c z] [.c .nilIface, .c (.pointer (some ⟨c, 0, none⟩))] (RetR fun x o => x = .c (.bool false) ∧ o = [ibox c z]) := by
  refine AC.of_J Tryz.func41 rfl Tryz.ntmps41 rfl fun w0 A0 => ?_
  refine J.seq ?_
  refine J.region_lit ?_
  refine JL.q rfl rfl rfl (QW.assign .const) ?_
  refine JL.nil ?_
  refine thenQ.n ?_
  refine J.seq ?_
  refine J.region_lit ?_
  refine JL.q rfl rfl rfl (QW.move (.tmp rfl)) ?_
  refine JL.q rfl rfl rfl (QW.assert_nil ⟨_, Tryz.underlying38, by intro ms h; cases h⟩ zeroErrno (.tmp rfl)) ?_
  refine JL.q rfl rfl rfl (QW.move (.tmp rfl)) ?_
  refine JL.q rfl rfl rfl (QW.extract (.tmp rfl) rfl) ?_
  refine JL.q rfl rfl rfl (QW.extract (.tmp rfl) rfl) ?_
  refine JL.q rfl rfl rfl (QW.assign (.tmp rfl)) ?_
  refine JL.q rfl rfl rfl (QW.assign (.tmp rfl)) ?_
  refine JL.nil ?_
  refine thenQ.n ?_
  refine J.seq ?_
  refine J.seq ?_
  refine J.region_lit ?_
  refine JL.q rfl rfl rfl (QW.move (.tmp rfl)) ?_
  refine JL.nil ?_
  refine thenQ.n ?_
  refine J.cond (.tmp rfl) (fun c1 => absurd c1 (by simp)) (fun c1 => ?_)
  refine J.skip ?_
  refine thenQ.n ?_
  refine J.seq ?_
  refine J.region_lit ?_
  refine JL.q rfl rfl rfl (QW.move (.tmp rfl)) ?_
  refine JL.q rfl rfl rfl (QW.assign (.tmp rfl)) ?_
  refine JL.nil ?_
  refine thenQ.n ?_
  refine J.ret ?_
  exact ⟨_, selP [.p] _, _, RetEv.one rfl (REv.tmp rfl (.refl _)), rfl, sel_perm [.p] _, ⟨_, rfl, rfl, rfl⟩⟩
theorem told_hit (c : Nat) (z e : Int) : AC Tryz.prog 41 [ibox c z] [.c (errV e), .c (.pointer (some ⟨c, 0, none⟩))] (RetR fun x o => x = .c (.bool true) ∧ o = [ibox c e]) := by
  refine AC.of_J Tryz.func41 rfl Tryz.ntmps41 rfl fun w0 A0 => ?_
  refine J.seq ?_
  refine J.region_lit ?_
  refine JL.q rfl rfl rfl (QW.assign .const) ?_
  refine JL.nil ?_
  refine thenQ.n ?_
  refine J.seq ?_
  refine J.region_lit ?_
  refine JL.q rfl rfl rfl (QW.move (.tmp rfl)) ?_
  refine JL.q rfl rfl rfl (QW.assert_hit ⟨_, Tryz.underlying38, by intro ms h; cases h⟩ (.tmp rfl)) ?_
  refine JL.q rfl rfl rfl (QW.move (.tmp rfl)) ?_
  refine JL.q rfl rfl rfl (QW.extract (.tmp rfl) rfl) ?_
  refine JL.q rfl rfl rfl (QW.extract (.tmp rfl) rfl) ?_
  refine JL.q rfl rfl rfl (QW.assign (.tmp rfl)) ?_
  refine JL.q rfl rfl rfl (QW.assign (.tmp rfl)) ?_
  refine JL.nil ?_
  refine thenQ.n ?_
  refine J.seq ?_
  refine J.seq ?_
  refine J.region_lit ?_
  refine JL.q rfl rfl rfl (QW.move (.tmp rfl)) ?_
  refine JL.nil ?_
  refine thenQ.n ?_
  refine J.cond (.tmp rfl) (fun c1 => ?_) (fun c1 => absurd c1 (by simp))
  refine J.region_lit ?_
  refine JL.q rfl rfl rfl (QW.move (.tmp rfl)) ?_
  refine JL.q rfl rfl rfl (QW.move (.tmp rfl)) ?_
  refine JL.q rfl rfl rfl (QW.nil_ptr (.tmp rfl)) ?_
  refine JL.store_box 0 ty38 (.tmp rfl) rfl (.tmp rfl) (by first | rfl | assumption) rfl rfl rfl rfl ?_
  refine JL.nil ?_
  refine thenQ.n ?_
  refine J.seq ?_
  refine J.region_lit ?_
  refine JL.q rfl rfl rfl (QW.move (.tmp rfl)) ?_
  refine JL.q rfl rfl rfl (QW.assign (.tmp rfl)) ?_
  refine JL.nil ?_
  refine thenQ.n ?_
  refine J.ret ?_
  exact ⟨_, selP [.p] _, _, RetEv.one rfl (REv.tmp rfl (.refl _)), rfl, sel_perm [.p] _, ⟨_, rfl, rfl, rfl⟩⟩
theorem esize1_ret (a b c : Nat) (x y z : Int) : DC Tryz.prog 40 [ibox a x, ibox c z, ibox b y] [.c (.pointer (some ⟨a, 0, none⟩)), .c (.pointer (some ⟨b, 0, none⟩)), .c (.pointer (some ⟨c, 0, none⟩))] .returning fun r u' o => r = .ret (.tup []) ∧ u' = .returning ∧ o = [ibox a x, ibox c z, ibox b y] := by
  refine DC.of_JD Tryz.func40 rfl Tryz.ntmps40 rfl fun w0 A0 => ?_
  refine JD.seq ?_
  refine JD.region_recover rfl rfl (.inl ⟨rfl, rfl, rfl⟩) rfl ?_
  refine JL.callRF [.p] gofn41 rfl Lent.nil (fun _ => (.cons (.tmp rfl) (.cons (.tmp rfl) .nil))) (told_nil _ _) (.inl rfl) fun x4 o4 h4 => ?_
  obtain ⟨rfl, rfl⟩ := h4
  refine JL.nil ?_
  refine thenD.nn ?_
  refine JD.of_J rfl ?_
  refine J.cond (.tmp rfl) (fun c1 => absurd c1 (by simp)) (fun c1 => ?_)
  refine J.skip ?_
  exact ⟨_, selP [.p, .p, .p] _, _, RetEv.none rfl , rfl, sel_perm [.p, .p, .p] _, ⟨rfl, rfl, rfl⟩⟩
theorem esize1_pan (a b c : Nat) (x y z e : Int) : DC Tryz.prog 40 [ibox a x, ibox c z, ibox b y] [.c (.pointer (some ⟨a, 0, none⟩)), .c (.pointer (some ⟨b, 0, none⟩)), .c (.pointer (some ⟨c, 0, none⟩))] (.panicking [{ v := errV e, recovered := false }]) fun r u' o => r = .ret (.tup []) ∧ u' = .panicking [{ v := errV e, recovered := true }] ∧ o = [ibox a e, ibox c 0, ibox b 0] := by
  refine DC.of_JD Tryz.func40 rfl Tryz.ntmps40 rfl fun w0 A0 => ?_
  refine JD.seq ?_
  refine JD.region_recover rfl rfl (.inr ⟨[], rfl, rfl⟩) rfl ?_
  refine JL.callRF [.p] gofn41 rfl Lent.nil (fun _ => (.cons (.tmp rfl) (.cons (.tmp rfl) .nil))) (told_hit _ _ _) (.inl rfl) fun x4 o4 h4 => ?_
  obtain ⟨rfl, rfl⟩ := h4
  refine JL.nil ?_
  refine thenD.nn ?_
  refine JD.of_J rfl ?_
  refine J.cond (.tmp rfl) (fun c1 => ?_) (fun c1 => absurd c1 (by simp))
  refine J.region_lit ?_
  refine JL.store_box 2 ty3 (.tmp rfl) rfl .const (by first | rfl | assumption) rfl rfl rfl rfl ?_
  refine JL.store_box 1 ty3 (.tmp rfl) rfl .const (by first | rfl | assumption) rfl rfl rfl rfl ?_
  refine JL.nil ?_
  exact ⟨_, selP [.p, .p, .p] _, _, RetEv.none rfl , rfl, sel_perm [.p, .p, .p] _, ⟨rfl, rfl, rfl⟩⟩
def esizeAV (v : EX) : AV := .tup [.c (.int .i64 (if v.err = 0 then v.cnt else 0)), .c (.int .i64 (if v.err = 0 then v.depth else 0)), .c (.int .i64 v.err)]
theorem esizeAV_ok {v : EX} {n d : Int} (h : v.err = 0) (hn : n = v.cnt) (hd : d = v.depth) : esizeAV v = .tup [.c (.int .i64 n), .c (.int .i64 d), .c (.int .i64 0)] := by
  subst hn hd; simp [esizeAV, h]
theorem esizeAV_no {v : EX} {e : Int} (h : ¬ v.err = 0) (he : e = v.err) : esizeAV v = .tup [.c (.int .i64 0), .c (.int .i64 0), .c (.int .i64 e)] := by
  subst he; simp [esizeAV, h]
theorem esize_ok {fr : Bool} {v : EX} {ys : List AV} (hv : Xc fr v ys) (hw : v.wf) : Fn Tryz.prog 30 [.agg ys] (esizeAV v) := by
  subst hv
  refine AC.of_JD Tryz.func30 rfl Tryz.ntmps30 rfl fun w0 A0 => ?_
  refine J.seq ?_
  refine J.region_lit ?_
  refine JL.box_agg (.tmp rfl) rfl fun b1 => ?_
  refine JL.alloc z3 rfl rfl fun b2 => ?_
  refine JL.alloc z3 rfl rfl fun b3 => ?_
  refine JL.alloc z38 rfl rfl fun b4 => ?_
  refine JL.nil ?_
  refine thenQ.n ?_
  refine J.seq ?_
  refine J.region_lit ?_
  refine JL.q rfl rfl rfl (QW.mkFunc .nil (.cons (.tmp rfl) (.cons (.tmp rfl) (.cons (.tmp rfl) .nil)))) ?_
  refine JL.defer rfl (.tmp rfl) ?_
  refine JL.nil ?_
  refine thenQ.n ?_
  refine J.seq ?_
  refine J.region_lit ?_
  refine JL.alloc z83 rfl rfl fun b5 => ?_
  refine JL.nil ?_
  refine thenQ.n ?_
  refine J.seq ?_
  refine J.region_lit ?_
  refine JL.q rfl rfl rfl (by first | exact QW.load_box 4 ty34 (.tmp rfl) rfl rfl rfl | exact QW.load_box 4 ty34 (.tmp rfl) rfl (take_at (EX.cs_length _ _) rfl) (EX.cs_length _ _)) ?_
  refine JL.callPF [.p] gofn42 rfl Lent.nil (fun _ => (.cons (.tmp rfl) (.cons (.tmp rfl) (.cons .const .nil)))) (ewalk_n _ Xc.self hw (by omega) (by omega) (Nat.le_refl _)) (.inl rfl) (fun k8 x8 o8 h8 => ?_) (fun k8 => ?_)
  rotate_left
  · skip
    refine thenQ.p ?_
    exact ⟨_, _, [], [_, _, _], selP [.p, .p, .p] _, _, rfl, rfl, gofn40, sel_perm [.p, .p, .p] _, DC.mono (esize1_pan _ _ _ _ _ _ _) fun r u' o ⟨h1, h2, h3⟩ => by subst h1 h2 h3; exact ⟨⟨_, rfl⟩, rfl, _, [], _, RetEv.three rfl (REv.cell1 2 ty3 rfl rfl rfl (.refl _)) (REv.cell1 1 ty3 rfl rfl rfl (.refl _)) (REv.cell1 0 ty38 rfl rfl rfl (.refl _)), List.Perm.refl _, (congrArg Res.ret (esizeAV_no k8 rfl)).symm, rfl⟩⟩
  obtain ⟨rfl, rfl⟩ := h8
  refine JL.nil ?_
  refine thenQ.n ?_
  refine J.seq ?_
  refine J.region_outK 5 1 (fun os_ ow_ x_ o_ => match os_ with | [] => (x_ = .c undef ∧ o_ = ow_.set 3 (ibox b2 (v.chk 1 0).2)) | _ => False) mixed (by kernel_rfl) (by kernel_rfl) (by kernel_rfl) rfl ?_
  refine OutK.quiet [] rfl rfl rfl (fun qs_ qv_ ql_ => (.q rfl (QW.field_ptr fo83_0 (.tmp rfl) rfl))) ?_
  refine OutK.quiet [9] rfl rfl rfl (fun qs_ qv_ ql_ => by
      rcases qs_ with _ | ⟨⟨y0, p0⟩, qs_⟩
      · skip
        exact (.q rfl (QW.load_box1 0 ty3 (.tmp rfl) rfl rfl))
      rcases qs_ with _ | ⟨⟨y1, p1⟩, qs_⟩
      · skip
        obtain ⟨hr0, _⟩ := qv_
        obtain ⟨rfl, rfl⟩ := hr0
        exact (.q rfl (QW.load_box1 0 ty3 (.tmp rfl) rfl rfl))
      exact absurd ql_ (by simp)) ?_
  refine OutK.quiet [] rfl rfl rfl (fun qs_ qv_ ql_ => (.q rfl (QW.field_ptr fo83_1 (.tmp rfl) rfl))) ?_
  refine OutK.quiet [11] rfl rfl rfl (fun qs_ qv_ ql_ => by
      rcases qs_ with _ | ⟨⟨y0, p0⟩, qs_⟩
      · skip
        exact (.q rfl (QW.load_box1 0 ty3 (.tmp rfl) rfl rfl))
      rcases qs_ with _ | ⟨⟨y1, p1⟩, qs_⟩
      · skip
        obtain ⟨hr0, _⟩ := qv_
        obtain ⟨rfl, rfl⟩ := hr0
        exact (.q rfl (QW.load_box1 0 ty3 (.tmp rfl) rfl rfl))
      exact absurd ql_ (by simp)) ?_
  refine OutK.store [10] rfl (fun qs_ ow x o h ql_ => by
      obtain rfl : qs_ = [] := List.length_eq_zero_iff.1 (by simpa using ql_)
      exact h.1) rfl rfl rfl (fun qs_ qv_ ql_ => by
      obtain rfl : qs_ = [] := List.length_eq_zero_iff.1 ql_
      exact LStep.toR rfl (LStep.store_box 3 ty3 (.tmp rfl) rfl (.tmp rfl) (by first | rfl | assumption) rfl rfl rfl rfl) ⟨rfl, rfl⟩) ?_
  refine .nil fun qs_ qv_ ql_ => ?_
  obtain ⟨⟨y0, p0⟩, qs_, rfl⟩ : ∃ p t, qs_ = p :: t := by (cases qs_ with | nil => simp at ql_ | cons p t => exact ⟨p, t, rfl⟩)
  obtain rfl : qs_ = [] := List.length_eq_zero_iff.1 (by simpa using ql_)
  obtain ⟨hr0, _⟩ := qv_
  obtain ⟨rfl, rfl⟩ := hr0
  refine JL.conv (by (try simp only [id_eq, stepsO, List.map_cons, List.map_nil, valO, nthO, curO, mrg, List.reverse_cons, List.reverse_nil, List.nil_append, List.cons_append, List.append_nil, List.getElem?_cons_zero, List.getElem?_cons_succ, Option.map_some, Option.getD_some, List.set_cons_zero, List.set_cons_succ, AV.cellsOf, splice_zero, splice_succ, Nat.zero_add, Nat.reduceAdd]); rfl) ?_
  refine JL.store_box 2 ty3 (.tmp rfl) rfl (.tmp rfl) (by first | rfl | assumption) rfl rfl rfl rfl ?_
  refine JL.store_box 1 ty38 (.tmp rfl) rfl .const (by first | rfl | assumption) rfl rfl rfl rfl ?_
  refine JL.nil ?_
  refine thenQ.n ?_
  refine J.ret ?_
  exact ⟨_, _, [], [_, _, _], selP [.k, .p, .p, .p] _, _, rfl, rfl, gofn40, sel_perm [.k, .p, .p, .p] _, DC.mono (esize1_ret _ _ _ _ _ _) fun r u' o ⟨h1, h2, h3⟩ => by subst h1 h2 h3; exact ⟨⟨_, rfl⟩, rfl, _, [], _, RetEv.three rfl (REv.cell1 2 ty3 rfl rfl rfl (.refl _)) (REv.cell1 1 ty3 rfl rfl rfl (.refl _)) (REv.cell1 0 ty38 rfl rfl rfl (.refl _)), List.Perm.refl _, (congrArg Res.ret (esizeAV_ok k8 rfl (by have := EX.chk_depth v 1 0 k8; omega))).symm, rfl⟩⟩
theorem echeck_ok {fr : Bool} {v : EX} {ys : List AV} (hv : Xc fr v ys) (hw : v.wf) : Fn Tryz.prog 23 [.agg ys] (.c (.int .i64 v.err)) := by
  subst hv
  refine AC.of_J Tryz.func23 rfl Tryz.ntmps23 rfl fun w0 A0 => ?_
  refine J.seq ?_
  refine J.region_lit ?_
  refine JL.box_agg (.tmp rfl) rfl fun b1 => ?_
  refine JL.q rfl rfl rfl (QW.assign .const) ?_
  refine JL.nil ?_
  refine thenQ.n ?_
  refine J.seq ?_
  refine J.region_lit ?_
  refine JL.q rfl rfl rfl (by first | exact QW.load_box 0 ty34 (.tmp rfl) rfl rfl rfl | exact QW.load_box 0 ty34 (.tmp rfl) rfl (take_at (EX.cs_length _ _) rfl) (EX.cs_length _ _)) ?_
  refine JL.q rfl rfl rfl (QW.call gofn30 (.cons (.tmp rfl) .nil) (esize_ok (by first | exact Xc.self | exact Xc.mk) (by assumption))) ?_
  refine JL.q rfl rfl rfl (QW.move (.tmp rfl)) ?_
  refine JL.q rfl rfl rfl (QW.extract (.tmp rfl) rfl) ?_
  refine JL.q rfl rfl rfl (QW.extract (.tmp rfl) rfl) ?_
  refine JL.q rfl rfl rfl (QW.extract (.tmp rfl) rfl) ?_
  refine JL.q rfl rfl rfl (QW.assign (.tmp rfl)) ?_
  refine JL.q rfl rfl rfl (QW.assign (.tmp rfl)) ?_
  refine JL.q rfl rfl rfl (QW.assign (.tmp rfl)) ?_
  refine JL.nil ?_
  refine thenQ.n ?_
  refine J.seq ?_
  refine J.region_lit ?_
  refine JL.q rfl rfl rfl (QW.move (.tmp rfl)) ?_
  refine JL.q rfl rfl rfl (QW.assign (.tmp rfl)) ?_
  refine JL.nil ?_
  refine thenQ.n ?_
  refine J.ret ?_
  exact ⟨_, selP [.k] _, _, RetEv.one rfl (REv.tmp rfl (.refl _)), rfl, sel_perm [.k] _, ⟨rfl, rfl⟩⟩
end Go.Proofs.YtjhonjdhanlbkaaGreat.J

/- Walks: are two expressions one; copies; octets that are copied, spoilt, compared. -/
namespace Go.Proofs.YtjhonjdhanlbkaaGreat.J
open Go Go.RowKit
set_option maxRecDepth 10000
set_option maxHeartbeats 4000000
theorem of14_n  : ∀ (n : Nat) {v : EX} {ys : List AV} {fr : Bool}, Xc fr v ys → v.wf → v.sz ≤ n → AC Tryz.prog 9 [] [.agg ys] (RetR (CopyE v)) := by
  intro n
  induction n with
  | zero => intro v ys fr hv hw h; exact absurd h (by have := EX.sz_pos v; omega)
  | succ n ih =>
    intro v ys fr hv hw hn
    obtain ⟨o, b, t, is⟩ := v
    subst hv
    obtain ⟨-, -, -, hi80, hwi⟩ := hw.inv
    have h1 : is.length ≤ 9223372036854775806 := by unfold reach at hi80; omega
    refine AC.of_J Tryz.func9 rfl Tryz.ntmps9 rfl fun w0 A0 => ?_
    refine J.seq ?_
    refine J.region_lit ?_
    refine JL.box_agg (.tmp rfl) rfl fun b1 => ?_
    refine JL.alloc z34 rfl rfl fun b2 => ?_
    refine JL.nil ?_
    refine thenQ.n ?_
    refine J.seq ?_
    refine J.region_lit ?_
    refine JL.q rfl rfl rfl (QW.field_ptr fo25_0 (.tmp rfl) rfl) ?_
    refine JL.q rfl rfl rfl (QW.load_box1 1 ty3 (.tmp rfl) rfl rfl) ?_
    refine JL.q rfl rfl rfl (QW.field_ptr fo25_1 (.tmp rfl) rfl) ?_
    refine JL.q rfl rfl rfl (QW.load_box1 1 ty22 (.tmp rfl) rfl rfl) ?_
    refine JL.q rfl rfl rfl (QW.field_ptr fo25_2 (.tmp rfl) rfl) ?_
    refine JL.q rfl rfl rfl (QW.load_box1 1 ty9 (.tmp rfl) rfl rfl) ?_
    refine JL.q rfl rfl rfl (QW.build (idx := [0, 1, 2]) pl34 z34 rfl (.cons (.tmp rfl) (.cons (.tmp rfl) (.cons (.tmp rfl) .nil))) rfl rfl rfl rfl) ?_
    refine JL.alloc z34 rfl rfl fun b3 => ?_
    first | refine JL.store_boxF 0 ty34 (.tmp rfl) rfl (.tmp rfl) (by first | rfl | assumption) (by first | rfl | exact EX.cs_length _ _) (by first | rfl | exact EX.cs_length _ _) rfl ?_ | refine JL.store_box 0 ty34 (.tmp rfl) rfl (.tmp rfl) (by first | rfl | assumption) (by first | rfl | exact EX.cs_length _ _) rfl rfl rfl ?_
    refine JL.nil ?_
    refine thenQ.n ?_
    refine J.seq ?_
    refine J.seq ?_
    refine J.region_lit ?_
    refine JL.q rfl rfl rfl (QW.assign .const) ?_
    refine JL.nil ?_
    refine thenQ.n ?_
    refine J.block ?_
    refine J.reown (Reown.nilArrE eEX _) ?_
    refine J.reown (Reown.nilGrpE _) ?_
    refine J.loopK (ι := Nat × Value × List (List AV) × List Value × Own) [1, 2, 3] (fun ⟨j, v, cs, us, g⟩ => [(4, .c (.int .i64 (j : Int)))]) (fun ⟨j, v, cs, us, g⟩ oo => List.set (List.set (List.set oo 0 (.box b3 ((EX.mk o b t is).raw v))) 3 (.arr v eEX cs)) 4 (g)) (fun ⟨j, v, cs, us, g⟩ => j ≤ is.length ∧ EKids (is.take j) cs us g) (fun ⟨j, v, cs, us, g⟩ => is.length - j) ⟨0, .slice none 0 0, [], [], .grp []⟩ (⟨Nat.zero_le _, .nil⟩) (Wk.re (.cons rfl (.refl _) (.cons rfl (.refl _) (.cons rfl (.refl _) (.cons rfl (.refl _) .nil)))) (Reown.refl _) (fun _ h => by first | exact h | simp [h])) ?_
    intro ⟨j, v, cs, us, g⟩ ⟨hj, hK⟩
    refine J.conv (by (try simp only [id_eq, stepsO, List.map_cons, List.map_nil, valO, nthO, curO, mrg, List.reverse_cons, List.reverse_nil, List.nil_append, List.cons_append, List.append_nil, List.getElem?_cons_zero, List.getElem?_cons_succ, Option.map_some, Option.getD_some, List.set_cons_zero, List.set_cons_succ, AV.cellsOf, splice_zero, splice_succ, Nat.zero_add, Nat.reduceAdd]); rfl) ?_
    refine J.seq ?_
    refine J.seq ?_
    refine J.region_lit ?_
    refine JL.q rfl rfl rfl (QW.move (.tmp rfl)) ?_
    refine JL.q rfl rfl rfl (QW.field_ptr fo25_3 (.tmp rfl) rfl) ?_
    refine JL.q rfl rfl rfl (QW.load_box1 2 ty23 (.tmp rfl) rfl rfl) ?_
    refine JL.q rfl rfl rfl (by first | exact QW.len_slE sl23 (.tmp rfl) (EX.css_length _ _) | exact QW.len_sl sl23 (.tmp rfl) | exact QW.len_nil sl23 (.tmp rfl)) ?_
    refine JL.q rfl rfl rfl (QW.lss (.tmp rfl) (.tmp rfl)) ?_
    refine JL.nil ?_
    refine thenQ.n ?_
    refine J.cond (.tmp rfl) (fun c1 => ?_) (fun c1 => ?_)
    · skip
      have hlt : j < is.length := by simpa [EX.css_length] using c1
      refine J.skip ?_
      refine thenQ.n ?_
      refine J.seq ?_
      refine J.block ?_
      refine J.regionX mixed ?_
      refine JX.f 0 [] rfl rfl rfl rfl rfl rfl rfl rfl (fun ow_ => (.q rfl (QW.field_ptr fo34_3 (.tmp rfl) rfl))) ?_
      refine JX.o 1 0 [19] rfl rfl rfl rfl rfl rfl rfl rfl rfl (fun ow_ ho_ => (.q rfl (QW.load_box1 0 ty32 (.tmp rfl) ho_ rfl))) ?_
      refine JX.f 2 [] rfl rfl rfl rfl rfl rfl rfl rfl (fun ow_ => (.q rfl (QW.field_ptr fo25_3 (.tmp rfl) rfl))) ?_
      refine JX.o 3 2 [21] rfl rfl rfl rfl rfl rfl rfl rfl rfl (fun ow_ ho_ => (.q rfl (QW.load_box1 2 ty23 (.tmp rfl) ho_ rfl))) ?_
      refine JX.f 4 [] rfl rfl rfl rfl rfl rfl rfl rfl (fun ow_ => (.q rfl (QW.move (.tmp rfl)))) ?_
      refine JX.f 5 [22, 23] rfl rfl rfl rfl rfl rfl rfl rfl (fun ow_ => (.q rfl (QW.index_sl sl23 ty25 rfl (.tmp rfl) (.tmp rfl) (by first | rfl | omega | (simp; done)) (by exact EX.css_getE _ hlt)))) ?_
      refine JX.f 6 [24] rfl rfl rfl rfl rfl rfl rfl rfl (fun ow_ => (.q rfl (by first | exact QW.load_ref ty25 (.tmp rfl) rfl rfl | exact QW.load_ref ty25 (.tmp rfl) (take_at0 (EX.cs_length _ _) rfl) (EX.cs_length _ _)))) ?_
      refine JX.one 7 [true, true, true, true, true, false, false] rfl (by kernel_rfl) (by kernel_rfl) rfl rfl (by kernel_rfl) rfl fun bs7_ pe_ ex_ => ?_
      refine JL.conv (by (try simp only [vlF, bxF, tkM, lvM, Flt.val, Flt.bx, List.append_assoc, List.take_succ_cons, List.take_zero, List.append_eq, id_eq, stepsO, List.map_cons, List.map_nil, valO, nthO, curO, mrg, List.reverse_cons, List.reverse_nil, List.nil_append, List.cons_append, List.append_nil, List.getElem?_cons_zero, List.getElem?_cons_succ, Option.map_some, Option.getD_some, List.set_cons_zero, List.set_cons_succ, AV.cellsOf, splice_zero, splice_succ, Nat.zero_add, Nat.reduceAdd]); rfl) ?_
      refine JL.callRF [] gofn9 rfl Lent.nil (fun _ => (.cons (.tmp rfl) .nil)) (ih Xc.self (hwi _ (List.getElem_mem _)) (EX.sz_get hn hlt)) (.inl rfl) fun x26 o26 h26 => ?_
      obtain ⟨iv26, oi26, rfl, rfl, hV26⟩ := h26
      refine JL.nil ?_
      refine thenQ.n ⟨[_], _, rfl, rfl, rfl, rfl, rfl, Reown.mrgN 5 rfl rfl, ⟨rfl, rfl⟩, ⟨rfl, ⟨trivial, trivial⟩⟩, ?_⟩
      refine JX.conv (S' := [7, 6, 5, 4, 3, 2]) rfl (by (try simp only [lvM]); rfl) (by (try simp only [vlF, bxF, tkM, lvM, Flt.val, Flt.bx, List.append_assoc, List.take_succ_cons, List.take_zero, List.append_eq, id_eq, stepsO, List.map_cons, List.map_nil, valO, nthO, curO, mrg, List.reverse_cons, List.reverse_nil, List.nil_append, List.cons_append, List.append_nil, List.getElem?_cons_zero, List.getElem?_cons_succ, Option.map_some, Option.getD_some, List.set_cons_zero, List.set_cons_succ, AV.cellsOf, splice_zero, splice_succ, Nat.zero_add, Nat.reduceAdd]); rfl) ?_
      refine JX.f 8 [26] rfl rfl rfl rfl rfl rfl rfl rfl (fun ow_ => (.q rfl (QW.buildSlice (idx := [0]) (xs := [is[j].raw iv26]) sl32 el34 z34 rfl (.cons (.tmp rfl) .nil) rfl rfl rfl rfl rfl rfl rfl rfl rfl))) ?_
      refine JX.one 9 [true, true, true] rfl (by kernel_rfl) (by kernel_rfl) rfl rfl (by kernel_rfl) rfl fun bs9_ pe_ ex_ => ?_
      refine JL.conv (by (try simp only [vlF, bxF, tkM, lvM, Flt.val, Flt.bx, List.append_assoc, List.take_succ_cons, List.take_zero, List.append_eq, id_eq, stepsO, List.map_cons, List.map_nil, valO, nthO, curO, mrg, List.reverse_cons, List.reverse_nil, List.nil_append, List.cons_append, List.append_nil, List.getElem?_cons_zero, List.getElem?_cons_succ, Option.map_some, Option.getD_some, List.set_cons_zero, List.set_cons_succ, AV.cellsOf, splice_zero, splice_succ, Nat.zero_add, Nat.reduceAdd]); rfl) ?_
      refine JL.append 3 sl32 el34 rfl (.tmp rfl) rfl (srcA_sl sl32 (.tmp rfl)) (by have := hK.h2; rw [List.length_take] at this; simp; unfold reach at *; omega) rfl fun v28 => ?_
      refine JL.nil ?_
      refine thenQ.n ⟨[_], _, rfl, rfl, rfl, rfl, rfl, Reown.tkN 6 rfl, ⟨rfl, rfl⟩, trivial, ?_⟩
      refine JX.conv (S' := [9, 8, 1, 0, 7, 6, 5, 4, 3, 2]) rfl (by (try simp only [lvM]); rfl) (by (try simp only [vlF, bxF, tkM, lvM, Flt.val, Flt.bx, List.append_assoc, List.take_succ_cons, List.take_zero, List.append_eq, id_eq, stepsO, List.map_cons, List.map_nil, valO, nthO, curO, mrg, List.reverse_cons, List.reverse_nil, List.nil_append, List.cons_append, List.append_nil, List.getElem?_cons_zero, List.getElem?_cons_succ, Option.map_some, Option.getD_some, List.set_cons_zero, List.set_cons_succ, AV.cellsOf, splice_zero, splice_succ, Nat.zero_add, Nat.reduceAdd]); rfl) ?_
      refine JX.f 10 [] rfl rfl rfl rfl rfl rfl rfl rfl (fun ow_ => (.q rfl (QW.field_ptr fo34_3 (.tmp rfl) rfl))) ?_
      refine JX.one 11 [true] rfl (by kernel_rfl) (by kernel_rfl) rfl rfl (by kernel_rfl) rfl fun bs11_ pe_ ex_ => ?_
      refine JL.conv (by (try simp only [vlF, bxF, tkM, lvM, Flt.val, Flt.bx, List.append_assoc, List.take_succ_cons, List.take_zero, List.append_eq, id_eq, stepsO, List.map_cons, List.map_nil, valO, nthO, curO, mrg, List.reverse_cons, List.reverse_nil, List.nil_append, List.cons_append, List.append_nil, List.getElem?_cons_zero, List.getElem?_cons_succ, Option.map_some, Option.getD_some, List.set_cons_zero, List.set_cons_succ, AV.cellsOf, splice_zero, splice_succ, Nat.zero_add, Nat.reduceAdd]); rfl) ?_
      refine JL.isSlice 3 rfl fun hs2 => ?_
      refine JL.store_box 0 ty32 (.tmp rfl) rfl (.tmp rfl) (by first | rfl | assumption) rfl rfl rfl rfl ?_
      refine JL.nil ?_
      refine thenQ.n ⟨[], _, rfl, rfl, rfl, rfl, rfl, Reown.tkN 6 rfl, trivial, trivial, ?_⟩
      refine JX.conv (S' := [11, 10, 9, 8, 1, 0, 7, 6, 5, 4, 3, 2]) rfl (by (try simp only [lvM]); rfl) (by (try simp only [vlF, bxF, tkM, lvM, Flt.val, Flt.bx, List.append_assoc, List.take_succ_cons, List.take_zero, List.append_eq, id_eq, stepsO, List.map_cons, List.map_nil, valO, nthO, curO, mrg, List.reverse_cons, List.reverse_nil, List.nil_append, List.cons_append, List.append_nil, List.getElem?_cons_zero, List.getElem?_cons_succ, Option.map_some, Option.getD_some, List.set_cons_zero, List.set_cons_succ, AV.cellsOf, splice_zero, splice_succ, Nat.zero_add, Nat.reduceAdd]); rfl) ?_
      refine JX.fin (by kernel_rfl) (by kernel_rfl) fun bs_ => ?_
      refine QX.conv (by (try simp only [vlF, bxF, tkM, lvM, Flt.val, Flt.bx, List.append_assoc, List.take_succ_cons, List.take_zero, List.append_eq, id_eq, stepsO, List.map_cons, List.map_nil, valO, nthO, curO, mrg, List.reverse_cons, List.reverse_nil, List.nil_append, List.cons_append, List.append_nil, List.getElem?_cons_zero, List.getElem?_cons_succ, Option.map_some, Option.getD_some, List.set_cons_zero, List.set_cons_succ, AV.cellsOf, splice_zero, splice_succ, Nat.zero_add, Nat.reduceAdd]); rfl) ?_
      refine blkQ.n ?_
      refine thenQ.n ?_
      refine J.region_lit ?_
      refine JL.q rfl rfl rfl (QW.move (.tmp rfl)) ?_
      refine JL.q rfl rfl rfl (QW.add (.tmp rfl) .const (by first | exact w64n (by first | rfl | omega | (simp; done)) (by omega) | exact w64 (by omega) | rfl)) ?_
      refine JL.q rfl rfl rfl (QW.assign (.tmp rfl)) ?_
      refine JL.nil ?_
      refine thenQ.n ?_
      exact ⟨⟨j + 1, _, _, _, _⟩, ⟨hlt, by rw [List.take_succ_eq_append_getElem hlt]; exact hK.snoc hV26⟩, by show is.length - (j + 1) < is.length - j; omega, Wk.re (.cons rfl (.refl _) (.cons rfl (.refl _) (.cons rfl (.refl _) (.cons rfl (.refl _) .nil)))) ((Reown.cons (Reown.cons (Reown.cons (Reown.cons (Reown.grp2 _ _ _)))))) (fun _ h => by first | exact h | simp [h])⟩
    have hge : is.length ≤ j := by simpa [EX.css_length] using c1
    refine J.exit ?_
    refine thenQ.x ?_
    refine thenQ.x ?_
    refine blkQ.hit ?_
    refine thenQ.n ?_
    refine J.seq ?_
    refine J.isSlice 3 rfl fun hs1 => ?_
    refine J.reown (Reown.cons (Reown.cons (Reown.cons (Reown.grp2 _ _ _)))) ?_
    refine J.region_lit ?_
    refine JL.q rfl rfl rfl (by first | exact QW.load_box 0 ty34 (.tmp rfl) rfl rfl rfl | exact QW.load_box 0 ty34 (.tmp rfl) rfl (take_at (EX.cs_length _ _) rfl) (EX.cs_length _ _)) ?_
    first | refine JL.store_boxF 1 ty34 (.tmp rfl) rfl (.tmp rfl) (by first | rfl | assumption) (by first | rfl | exact EX.cs_length _ _) (by first | rfl | exact EX.cs_length _ _) rfl ?_ | refine JL.store_box 1 ty34 (.tmp rfl) rfl (.tmp rfl) (by first | rfl | assumption) (by first | rfl | exact EX.cs_length _ _) rfl rfl rfl ?_
    refine JL.nil ?_
    refine thenQ.n ?_
    refine J.ret ?_
    obtain rfl : j = is.length := by omega
    rw [List.take_length] at hK
    exact ⟨_, selP [.k, .k, .k, .p] _, _, RetEv.one rfl (by first | exact REv.cell 1 ty34 rfl rfl rfl rfl (.refl _) | exact REv.cell 1 ty34 rfl rfl (take_at (EX.cs_length _ _) rfl) (EX.cs_length _ _) (.refl _)), rfl, sel_perm [.k, .k, .k, .p] _, ⟨_, rfl, _, _, rfl, rfl, hs1, hK.tr hi80⟩⟩
theorem of14_own {v : EX} {ys : List AV} {fr : Bool} (hv : Xc fr v ys) (hw : v.wf) : AC Tryz.prog 9 [] [.agg ys] (RetR (CopyE v)) := of14_n _ hv hw (Nat.le_refl _)
theorem of14_ok {v : EX} {ys : List AV} {fr : Bool} (hv : Xc fr v ys) (hw : v.wf) : Fn Tryz.prog 9 [.agg ys] (.agg (v.cs true)) := Fn.ofCopyE (of14_own hv hw)
end Go.Proofs.YtjhonjdhanlbkaaGreat.J

/- Walks: an expression over a scope, with fuel. -/
namespace Go.Proofs.YtjhonjdhanlbkaaGreat.J
open Go Go.RowKit
set_option maxRecDepth 10000
set_option maxHeartbeats 4000000
def zV : List AV := [.c (.int .i64 0), .c (.int .u64 0), .c (str []), .c (.slice none 0 0), .c (.slice none 0 0)]
def ScT.cs (s : ScT) : List AV := s.st.cs false ++ s.ev.cs false ++ s.it.cs false
def runAV (r : V × Int × Int) : AV := .tup [.agg (r.1.cs true), .c (.int .i64 r.2.1), .c (.int .i64 r.2.2)]
theorem runT_er {e : EX} {s : ScT} {f c : Int} (h : e.ev s f = .error c) : runT e s f = (.nil, 0, c) := by unfold runT; rw [h]
theorem runT_ok {e : EX} {s : ScT} {f f' : Int} {v : V} (h : e.ev s f = .ok (v, f')) : runT e s f = (v, f', 0) := by unfold runT; rw [h]
theorem trip_at {a b c : List AV} {j : Nat} (ha : a.length = 5) (hb : b.length = 5) (hc : c.length = 5) (h : j < 3) : ((a ++ b ++ c).drop (j * 5)).take 5 = (if j = 0 then a else if j = 1 then b else c) := by
  match j, h with
  | 0, _ => rw [Nat.zero_mul, List.drop_zero, List.append_assoc, List.take_left' ha]; rfl
  | 1, _ => rw [List.append_assoc, List.drop_left' (by omega), List.take_left' hb]; rfl
  | 2, _ => rw [List.drop_left' (by simp; omega), List.take_of_length_le (by omega)]; rfl
def ScT.at (s : ScT) (j : Nat) : V := if j = 0 then s.st else if j = 1 then s.ev else s.it
theorem ScT.trip {s : ScT} {j : Nat} (h : j < 3) : (s.cs.drop (j * 5)).take 5 = (s.at j).cs false := by
  unfold ScT.cs ScT.at
  rw [trip_at (V.cs_length _ _) (V.cs_length _ _) (V.cs_length _ _) h]
  repeat' split
  all_goals rfl
theorem run1_ret (a b c : Nat) (zs : List AV) (y z : Int) : DC Tryz.prog 31 [ibox c z, ibox b y, .box a zs] [.c (.pointer (some ⟨a, 0, none⟩)), .c (.pointer (some ⟨b, 0, none⟩)), .c (.pointer (some ⟨c, 0, none⟩))] .returning fun r u' o => r = .ret (.tup []) ∧ u' = .returning ∧ o = [ibox c z, ibox b y, .box a zs] := by
  refine DC.of_JD Tryz.func31 rfl Tryz.ntmps31 rfl fun w0 A0 => ?_
  refine JD.seq ?_
  refine JD.region_recover rfl rfl (.inl ⟨rfl, rfl, rfl⟩) rfl ?_
  refine JL.q rfl rfl rfl (QW.assert_nil ⟨_, Tryz.underlying38, by intro ms h; cases h⟩ zeroErrno (.tmp rfl)) ?_
  refine JL.q rfl rfl rfl (QW.move (.tmp rfl)) ?_
  refine JL.q rfl rfl rfl (QW.extract (.tmp rfl) rfl) ?_
  refine JL.q rfl rfl rfl (QW.extract (.tmp rfl) rfl) ?_
  refine JL.q rfl rfl rfl (QW.assign (.tmp rfl)) ?_
  refine JL.q rfl rfl rfl (QW.assign (.tmp rfl)) ?_
  refine JL.nil ?_
  refine thenD.nn ?_
  refine JD.of_J rfl ?_
  refine J.seq ?_
  refine J.region_lit ?_
  refine JL.q rfl rfl rfl (QW.move (.tmp rfl)) ?_
  refine JL.nil ?_
  refine thenQ.n ?_
  refine J.cond (.tmp rfl) (fun c1 => absurd c1 (by simp)) (fun c1 => ?_)
  refine J.skip ?_
  exact ⟨_, selP [.p, .p, .p] _, _, RetEv.none rfl , rfl, sel_perm [.p, .p, .p] _, ⟨rfl, rfl, rfl⟩⟩
theorem run1_pan (a b c : Nat) (zs : List AV) (hz : zs.length = 5) (y z e : Int) : DC Tryz.prog 31 [ibox c z, ibox b y, .box a zs] [.c (.pointer (some ⟨a, 0, none⟩)), .c (.pointer (some ⟨b, 0, none⟩)), .c (.pointer (some ⟨c, 0, none⟩))] (.panicking [{ v := errV e, recovered := false }]) fun r u' o => r = .ret (.tup []) ∧ u' = .panicking [{ v := errV e, recovered := true }] ∧ o = [ibox c e, ibox b 0, .box a zV] := by
  refine DC.of_JD Tryz.func31 rfl Tryz.ntmps31 rfl fun w0 A0 => ?_
  refine JD.seq ?_
  refine JD.region_recover rfl rfl (.inr ⟨[], rfl, rfl⟩) rfl ?_
  refine JL.q rfl rfl rfl (QW.assert_hit ⟨_, Tryz.underlying38, by intro ms h; cases h⟩ (.tmp rfl)) ?_
  refine JL.q rfl rfl rfl (QW.move (.tmp rfl)) ?_
  refine JL.q rfl rfl rfl (QW.extract (.tmp rfl) rfl) ?_
  refine JL.q rfl rfl rfl (QW.extract (.tmp rfl) rfl) ?_
  refine JL.q rfl rfl rfl (QW.assign (.tmp rfl)) ?_
  refine JL.q rfl rfl rfl (QW.assign (.tmp rfl)) ?_
  refine JL.nil ?_
  refine thenD.nn ?_
  refine JD.of_J rfl ?_
  refine J.seq ?_
  refine J.region_lit ?_
  refine JL.q rfl rfl rfl (QW.move (.tmp rfl)) ?_
  refine JL.nil ?_
  refine thenQ.n ?_
  refine J.cond (.tmp rfl) (fun c1 => ?_) (fun c1 => absurd c1 (by simp))
  refine J.region_lit ?_
  refine JL.q rfl rfl rfl (QW.build (idx := []) pl29 z29 rfl .nil rfl rfl rfl rfl) ?_
  refine JL.q rfl rfl rfl (QW.move (.tmp rfl)) ?_
  refine JL.store_box 2 ty29 (.tmp rfl) rfl (.tmp rfl) rfl rfl (by rw [hz]; rfl) (splice_all (by rw [hz]; rfl)) rfl ?_
  refine JL.store_box 1 ty3 (.tmp rfl) rfl .const (by first | rfl | assumption) rfl rfl rfl rfl ?_
  refine JL.store_box 0 ty38 (.tmp rfl) rfl (.tmp rfl) (by first | rfl | assumption) rfl rfl rfl rfl ?_
  refine JL.nil ?_
  exact ⟨_, selP [.p, .p, .p] _, _, RetEv.none rfl , rfl, sel_perm [.p, .p, .p] _, ⟨rfl, rfl, rfl⟩⟩
theorem run_ok {fr : Bool} {e : EX} {ys : List AV} (he : Xc fr e ys) (hw : e.wf) (hf : e.Fine) {s : ScT} (hs : s.good) {f : Int} (h0 : okF f) : Fn Tryz.prog 24 [.agg ys, .agg s.cs, .c (.int .i64 f)] (runAV (runT e s f)) := by
  subst he
  obtain ⟨⟨ka, ua, ta, va, ia⟩, ⟨kb, ub, tb, vb, ib⟩, ⟨kc, uc, tc, vc, ic⟩⟩ := s
  have hs0 := hs
  refine AC.of_JD Tryz.func24 rfl Tryz.ntmps24 rfl fun w0 A0 => ?_
  refine J.seq ?_
  refine J.region_lit ?_
  refine JL.box_agg (.tmp rfl) rfl fun b3 => ?_
  refine JL.box_agg (.tmp rfl) rfl fun b4 => ?_
  refine JL.alloc z29 rfl rfl fun b6 => ?_
  refine JL.alloc z3 rfl rfl fun b7 => ?_
  refine JL.alloc z38 rfl rfl fun b8 => ?_
  refine JL.nil ?_
  refine thenQ.n ?_
  refine J.seq ?_
  refine J.region_lit ?_
  refine JL.q rfl rfl rfl (QW.mkFunc .nil (.cons (.tmp rfl) (.cons (.tmp rfl) (.cons (.tmp rfl) .nil)))) ?_
  refine JL.defer rfl (.tmp rfl) ?_
  refine JL.nil ?_
  refine thenQ.n ?_
  refine J.seq ?_
  refine J.region_lit ?_
  refine JL.q rfl rfl rfl (QW.load_box 3 ty36 (.tmp rfl) rfl rfl rfl) ?_
  refine JL.q rfl rfl rfl (QW.move (.tmp rfl)) ?_
  refine JL.q rfl rfl rfl (QW.build (idx := [0, 1]) pl69 z69 rfl (.cons (.tmp rfl) (.cons (.tmp rfl) .nil)) rfl rfl rfl rfl) ?_
  refine JL.box_agg (.tmp rfl) rfl fun b14 => ?_
  refine JL.q rfl rfl rfl (QW.assign (.tmp rfl)) ?_
  refine JL.nil ?_
  refine thenQ.n ?_
  refine J.seq ?_
  refine J.region_lit ?_
  refine JL.q rfl rfl rfl (QW.move (.tmp rfl)) ?_
  refine JL.q rfl rfl rfl (by first | exact QW.load_box 5 ty34 (.tmp rfl) rfl rfl rfl | exact QW.load_box 5 ty34 (.tmp rfl) rfl (take_at (EX.cs_length _ _) rfl) (EX.cs_length _ _)) ?_
  refine JL.callPF [.p] gofn33 rfl Lent.nil (fun _ => (.cons (.tmp rfl) (.cons (.tmp rfl) .nil))) (meval_n _ e ⟨⟨ka, ua, ta, va, ia⟩, ⟨kb, ub, tb, vb, ib⟩, ⟨kc, uc, tc, vc, ic⟩⟩ f b14 fr hw hf hs h0 (Nat.le_refl _)) (.inl rfl) (fun k17 x17 o17 h17 => ?_) (fun k17 => ?_)
  rotate_left
  · skip
    refine thenQ.p ?_
    exact ⟨_, _, [], [_, _, _], selP [.p, .p, .p] _, _, rfl, rfl, gofn31, sel_perm [.p, .p, .p] _, DC.mono (run1_pan _ _ _ _ rfl _ _ _) fun r u' o ⟨h1, h2, h3⟩ => by subst h1 h2 h3; exact ⟨⟨_, rfl⟩, rfl, _, [], _, (by first | exact RetEv.three rfl (REv.cell 2 ty29 rfl rfl rfl rfl (.aggL (.cons (.refl _) (.cons (.refl _) (.cons (.refl _) (.cons (.nil true false _) (.cons (.nil true false _) .nil))))))) (REv.cell1 1 ty3 rfl rfl rfl (.refl _)) (REv.cell1 0 ty38 rfl rfl rfl (.refl _)) | exact RetEv.three rfl (REv.cell 2 ty29 rfl rfl (take_at (V.cs_length _ _) rfl) (V.cs_length _ _) (.aggL (.cons (.refl _) (.cons (.refl _) (.cons (.refl _) (.cons (.nil true false _) (.cons (.nil true false _) .nil))))))) (REv.cell1 1 ty3 rfl rfl rfl (.refl _)) (REv.cell1 0 ty38 rfl rfl rfl (.refl _))), List.Perm.refl _, (congrArg (fun r => Res.ret (runAV r)) (runT_er (er_of k17)).symm), rfl⟩⟩
  obtain ⟨v17, f17, hv17, rfl, rfl⟩ := h17
  refine JL.q rfl rfl rfl (QW.call gofn32 (.cons (.tmp rfl) .nil) (clone_rd Vc.self (ev_okF hw hf hs h0 hv17).1.wf)) ?_
  first | refine JL.store_boxF 3 ty29 (.tmp rfl) rfl (.tmp rfl) (by first | rfl | assumption) (by first | rfl | exact V.cs_length _ _) (by first | rfl | exact V.cs_length _ _) rfl ?_ | refine JL.store_box 3 ty29 (.tmp rfl) rfl (.tmp rfl) (by first | rfl | assumption) (by first | rfl | exact V.cs_length _ _) rfl rfl rfl ?_
  refine JL.nil ?_
  refine thenQ.n ?_
  refine J.seq ?_
  refine J.regionX mixed ?_
  refine JX.o 0 3 [] rfl rfl rfl rfl rfl rfl rfl rfl rfl (fun ow_ ho_ => (.q rfl (by first | exact QW.load_box 3 ty29 (.tmp rfl) ho_ rfl rfl | exact QW.load_box 3 ty29 (.tmp rfl) ho_ (take_at (V.cs_length _ _) rfl) (V.cs_length _ _)))) ?_
  refine JX.f 1 [] rfl rfl rfl rfl rfl rfl rfl rfl (fun ow_ => (.q rfl (QW.move (.tmp rfl)))) ?_
  refine JX.f 2 [20] rfl rfl rfl rfl rfl rfl rfl rfl (fun ow_ => (.q rfl (QW.nil_ptr (.tmp rfl)))) ?_
  refine JX.f 3 [21] rfl rfl rfl rfl rfl rfl rfl rfl (fun ow_ => (.q rfl (QW.field_ptr fo69_1 (.tmp rfl) rfl))) ?_
  refine JX.o 4 0 [22] rfl rfl rfl rfl rfl rfl rfl rfl rfl (fun ow_ ho_ => (.q rfl (QW.load_box1 0 ty3 (.tmp rfl) ho_ rfl))) ?_
  refine JX.one 5 [false, false, false, false, true] rfl (by kernel_rfl) (by kernel_rfl) rfl rfl (by kernel_rfl) rfl fun bs5_ pe_ ex_ => ?_
  refine JL.conv (by (try simp only [vlF, bxF, tkM, lvM, Flt.val, Flt.bx, List.append_assoc, List.take_succ_cons, List.take_zero, List.append_eq, id_eq, stepsO, List.map_cons, List.map_nil, valO, nthO, curO, mrg, List.reverse_cons, List.reverse_nil, List.nil_append, List.cons_append, List.append_nil, List.getElem?_cons_zero, List.getElem?_cons_succ, Option.map_some, Option.getD_some, List.set_cons_zero, List.set_cons_succ, AV.cellsOf, splice_zero, splice_succ, Nat.zero_add, Nat.reduceAdd]); rfl) ?_
  first | refine JL.store_boxF 3 ty29 (.tmp rfl) rfl (.tmp rfl) (by first | rfl | assumption) (by first | rfl | exact V.cs_length _ _) (by first | rfl | exact V.cs_length _ _) rfl ?_ | refine JL.store_box 3 ty29 (.tmp rfl) rfl (.tmp rfl) (by first | rfl | assumption) (by first | rfl | exact V.cs_length _ _) rfl rfl rfl ?_
  refine JL.nil ?_
  refine thenQ.n ⟨[], _, rfl, rfl, rfl, rfl, rfl, Reown.tkN 6 rfl, trivial, ⟨rfl, ⟨trivial, ⟨trivial, ⟨trivial, trivial⟩⟩⟩⟩, ?_⟩
  refine JX.conv (S' := [5, 0]) rfl (by (try simp only [lvM]); rfl) (by (try simp only [vlF, bxF, tkM, lvM, Flt.val, Flt.bx, List.append_assoc, List.take_succ_cons, List.take_zero, List.append_eq, id_eq, stepsO, List.map_cons, List.map_nil, valO, nthO, curO, mrg, List.reverse_cons, List.reverse_nil, List.nil_append, List.cons_append, List.append_nil, List.getElem?_cons_zero, List.getElem?_cons_succ, Option.map_some, Option.getD_some, List.set_cons_zero, List.set_cons_succ, AV.cellsOf, splice_zero, splice_succ, Nat.zero_add, Nat.reduceAdd]); rfl) ?_
  refine JX.one 6 [true, true, true, true] rfl (by kernel_rfl) (by kernel_rfl) rfl rfl (by kernel_rfl) rfl fun bs6_ pe_ ex_ => ?_
  refine JL.conv (by (try simp only [vlF, bxF, tkM, lvM, Flt.val, Flt.bx, List.append_assoc, List.take_succ_cons, List.take_zero, List.append_eq, id_eq, stepsO, List.map_cons, List.map_nil, valO, nthO, curO, mrg, List.reverse_cons, List.reverse_nil, List.nil_append, List.cons_append, List.append_nil, List.getElem?_cons_zero, List.getElem?_cons_succ, Option.map_some, Option.getD_some, List.set_cons_zero, List.set_cons_succ, AV.cellsOf, splice_zero, splice_succ, Nat.zero_add, Nat.reduceAdd]); rfl) ?_
  refine JL.store_box 2 ty3 (.tmp rfl) rfl (.tmp rfl) (by first | rfl | assumption) rfl rfl rfl rfl ?_
  refine JL.nil ?_
  refine thenQ.n ⟨[], _, rfl, rfl, rfl, rfl, rfl, Reown.tkN 6 rfl, trivial, trivial, ?_⟩
  refine JX.conv (S' := [6, 4, 3, 2, 1, 5, 0]) rfl (by (try simp only [lvM]); rfl) (by (try simp only [vlF, bxF, tkM, lvM, Flt.val, Flt.bx, List.append_assoc, List.take_succ_cons, List.take_zero, List.append_eq, id_eq, stepsO, List.map_cons, List.map_nil, valO, nthO, curO, mrg, List.reverse_cons, List.reverse_nil, List.nil_append, List.cons_append, List.append_nil, List.getElem?_cons_zero, List.getElem?_cons_succ, Option.map_some, Option.getD_some, List.set_cons_zero, List.set_cons_succ, AV.cellsOf, splice_zero, splice_succ, Nat.zero_add, Nat.reduceAdd]); rfl) ?_
  refine JX.one 7 [] rfl (by kernel_rfl) (by kernel_rfl) rfl rfl (by kernel_rfl) rfl fun bs7_ pe_ ex_ => ?_
  refine JL.conv (by (try simp only [vlF, bxF, tkM, lvM, Flt.val, Flt.bx, List.append_assoc, List.take_succ_cons, List.take_zero, List.append_eq, id_eq, stepsO, List.map_cons, List.map_nil, valO, nthO, curO, mrg, List.reverse_cons, List.reverse_nil, List.nil_append, List.cons_append, List.append_nil, List.getElem?_cons_zero, List.getElem?_cons_succ, Option.map_some, Option.getD_some, List.set_cons_zero, List.set_cons_succ, AV.cellsOf, splice_zero, splice_succ, Nat.zero_add, Nat.reduceAdd]); rfl) ?_
  refine JL.store_box 1 ty38 (.tmp rfl) rfl .const (by first | rfl | assumption) rfl rfl rfl rfl ?_
  refine JL.nil ?_
  refine thenQ.n ⟨[], _, rfl, rfl, rfl, rfl, rfl, Reown.tkN 6 rfl, trivial, trivial, ?_⟩
  refine JX.conv (S' := [7, 6, 4, 3, 2, 1, 5, 0]) rfl (by (try simp only [lvM]); rfl) (by (try simp only [vlF, bxF, tkM, lvM, Flt.val, Flt.bx, List.append_assoc, List.take_succ_cons, List.take_zero, List.append_eq, id_eq, stepsO, List.map_cons, List.map_nil, valO, nthO, curO, mrg, List.reverse_cons, List.reverse_nil, List.nil_append, List.cons_append, List.append_nil, List.getElem?_cons_zero, List.getElem?_cons_succ, Option.map_some, Option.getD_some, List.set_cons_zero, List.set_cons_succ, AV.cellsOf, splice_zero, splice_succ, Nat.zero_add, Nat.reduceAdd]); rfl) ?_
  refine JX.fin (by kernel_rfl) (by kernel_rfl) fun bs_ => ?_
  refine QX.conv (by (try simp only [vlF, bxF, tkM, lvM, Flt.val, Flt.bx, List.append_assoc, List.take_succ_cons, List.take_zero, List.append_eq, id_eq, stepsO, List.map_cons, List.map_nil, valO, nthO, curO, mrg, List.reverse_cons, List.reverse_nil, List.nil_append, List.cons_append, List.append_nil, List.getElem?_cons_zero, List.getElem?_cons_succ, Option.map_some, Option.getD_some, List.set_cons_zero, List.set_cons_succ, AV.cellsOf, splice_zero, splice_succ, Nat.zero_add, Nat.reduceAdd]); rfl) ?_
  refine thenQ.n ?_
  refine J.ret ?_
  exact ⟨_, _, [], [_, _, _], selP [.k, .p, .p, .p] _, _, rfl, rfl, gofn31, sel_perm [.k, .p, .p, .p] _, DC.mono (run1_ret _ _ _ _ _ _) fun r u' o ⟨h1, h2, h3⟩ => by subst h1 h2 h3; exact ⟨⟨_, rfl⟩, rfl, _, [], _, (by first | exact RetEv.three rfl (REv.cell 2 ty29 rfl rfl rfl rfl (.refl _)) (REv.cell1 1 ty3 rfl rfl rfl (.refl _)) (REv.cell1 0 ty38 rfl rfl rfl (.refl _)) | exact RetEv.three rfl (REv.cell 2 ty29 rfl rfl (take_at (V.cs_length _ _) rfl) (V.cs_length _ _) (.refl _)) (REv.cell1 1 ty3 rfl rfl rfl (.refl _)) (REv.cell1 0 ty38 rfl rfl rfl (.refl _))), List.Perm.refl _, (congrArg (fun r => Res.ret (runAV r)) (runT_ok hv17).symm), rfl⟩⟩
theorem ScT.good_of {s : ScT} (hw : s.st.wf ∧ s.ev.wf ∧ s.it.wf) (h : s.st.err = 0 ∧ s.ev.err = 0 ∧ s.it.err = 0) : s.good := ⟨⟨hw.1, h.1⟩, ⟨hw.2.1, h.2.1⟩, ⟨hw.2.2, h.2.2⟩⟩
theorem evalT_e {e : EX} {s : ScT} {f : Int} (h : ¬ e.err = 0) : evalT e s f = (.nil, 0, e.err) := if_pos h
theorem evalT_s {e : EX} {s : ScT} {f : Int} {j : Nat} (h : e.err = 0) (hj : j < 3) (h1 : ∀ i, i < j → (s.at i).err = 0) (h2 : ¬ (s.at j).err = 0) : evalT e s f = (.nil, 0, (s.at j).err) := by
  unfold evalT
  rw [if_neg (by simp [h])]
  match j, hj with
  | 0, _ => exact if_pos h2
  | 1, _ => rw [if_neg (by simpa [ScT.at] using h1 0 (by omega))]; exact if_pos h2
  | 2, _ => rw [if_neg (by simpa [ScT.at] using h1 0 (by omega)), if_neg (by simpa [ScT.at] using h1 1 (by omega))]; exact if_pos h2
theorem at_all {s : ScT} (h : ∀ i, i < 3 → (s.at i).err = 0) : s.st.err = 0 ∧ s.ev.err = 0 ∧ s.it.err = 0 := ⟨h 0 (by omega), h 1 (by omega), h 2 (by omega)⟩
theorem evalT_f {e : EX} {s : ScT} {f : Int} (h : e.err = 0) (h1 : s.st.err = 0 ∧ s.ev.err = 0 ∧ s.it.err = 0) (h2 : f < 0 ∨ 4096 < f) : evalT e s f = (.nil, 0, 4) := by
  unfold evalT
  rw [if_neg (by simp [h]), if_neg (by simp [h1.1]), if_neg (by simp [h1.2.1]), if_neg (by simp [h1.2.2]), if_pos h2]
theorem evalT_r {e : EX} {s : ScT} {f : Int} (h : e.err = 0) (h1 : s.st.err = 0 ∧ s.ev.err = 0 ∧ s.it.err = 0) (h2 : ¬ (f < 0 ∨ 4096 < f)) : evalT e s f = runT e s f := by
  unfold evalT
  rw [if_neg (by simp [h]), if_neg (by simp [h1.1]), if_neg (by simp [h1.2.1]), if_neg (by simp [h1.2.2]), if_neg h2]
theorem ScT.at_wf {s : ScT} (hw : s.st.wf ∧ s.ev.wf ∧ s.it.wf) (j : Nat) : (s.at j).wf := by
  unfold ScT.at; repeat' split
  · exact hw.1
  · exact hw.2.1
  · exact hw.2.2
theorem fill_sc (s : ScT) : fillA (fun i => some (i * 5, 5)) (zV ++ zV ++ zV) (([0, 1, 2] : List Nat).zip ([AV.agg (s.st.cs false), AV.agg (s.ev.cs false), AV.agg (s.it.cs false)].map AV.cellsOf)) = some s.cs := by
  obtain ⟨⟨ka, ua, ta, va, ia⟩, ⟨kb, ub, tb, vb, ib⟩, ⟨kc, uc, tc, vc, ic⟩⟩ := s
  rfl
theorem ScT.cs_len (s : ScT) : s.cs.length = 15 := by simp [ScT.cs, V.cs_length]
theorem eval_ok {fr : Bool} {e : EX} {ys : List AV} (he : Xc fr e ys) (hew : e.wf) {s : ScT} (hw : s.st.wf ∧ s.ev.wf ∧ s.it.wf) {f : Int} (h64 : -9223372036854775808 ≤ f ∧ f ≤ 9223372036854775807) : Fn Tryz.prog 11 [.agg ys, .agg s.cs, .c (.int .i64 f)] (runAV (evalT e s f)) := by
  subst he
  refine AC.of_J Tryz.func11 rfl Tryz.ntmps11 rfl fun w0 A0 => ?_
  refine J.seq ?_
  refine J.region_lit ?_
  refine JL.box_agg (.tmp rfl) rfl fun b3 => ?_
  refine JL.box_agg (.tmp rfl) rfl fun b4 => ?_
  refine JL.alloc z29 rfl rfl fun b6 => ?_
  refine JL.q rfl rfl rfl (QW.assign .const) ?_
  refine JL.q rfl rfl rfl (QW.assign .const) ?_
  refine JL.nil ?_
  refine thenQ.n ?_
  refine J.seq ?_
  refine J.seq ?_
  refine J.region_lit ?_
  refine JL.q rfl rfl rfl (by first | exact QW.load_box 2 ty34 (.tmp rfl) rfl rfl rfl | exact QW.load_box 2 ty34 (.tmp rfl) rfl (take_at (EX.cs_length _ _) rfl) (EX.cs_length _ _)) ?_
  refine JL.q rfl rfl rfl (QW.call gofn23 (.cons (.tmp rfl) .nil) (echeck_ok (by first | exact Xc.self | exact Xc.mk) (by assumption))) ?_
  refine JL.q rfl rfl rfl (QW.assign (.tmp rfl)) ?_
  refine JL.nil ?_
  refine thenQ.n ?_
  refine J.seq ?_
  refine J.region_lit ?_
  refine JL.q rfl rfl rfl (QW.move (.tmp rfl)) ?_
  refine JL.q rfl rfl rfl (QW.neq (.tmp rfl) .const) ?_
  refine JL.nil ?_
  refine thenQ.n ?_
  refine J.cond (.tmp rfl) (fun c1 => ?_) (fun c1 => ?_)
  · skip
    have hbe : ¬ e.err = 0 := by simpa using c1
    refine J.seq ?_
    refine J.region_lit ?_
    refine JL.q rfl rfl rfl (QW.build (idx := []) pl29 z29 rfl .nil rfl rfl rfl rfl) ?_
    refine JL.q rfl rfl rfl (QW.move (.tmp rfl)) ?_
    first | refine JL.store_boxF 0 ty29 (.tmp rfl) rfl (.tmp rfl) (by first | rfl | assumption) (by first | rfl | exact V.cs_length _ _) (by first | rfl | exact V.cs_length _ _) rfl ?_ | refine JL.store_box 0 ty29 (.tmp rfl) rfl (.tmp rfl) (by first | rfl | assumption) (by first | rfl | exact V.cs_length _ _) rfl rfl rfl ?_
    refine JL.q rfl rfl rfl (QW.assign .const) ?_
    refine JL.q rfl rfl rfl (QW.assign (.tmp rfl)) ?_
    refine JL.nil ?_
    refine thenQ.n ?_
    refine J.ret ?_
    refine thenQ.r ?_
    exact ⟨_, selP [.k, .k, .k] _, _, RetEv.three rfl (by first | exact REv.cell 0 ty29 rfl rfl rfl rfl (.aggL (.cons (.refl _) (.cons (.refl _) (.cons (.refl _) (.cons (.nil true false _) (.cons (.nil true false _) .nil)))))) | exact REv.cell 0 ty29 rfl rfl (take_at (V.cs_length _ _) rfl) (V.cs_length _ _) (.aggL (.cons (.refl _) (.cons (.refl _) (.cons (.refl _) (.cons (.nil true false _) (.cons (.nil true false _) .nil))))))) (REv.tmp rfl (.refl _)) (REv.tmp rfl (.refl _)), rfl, sel_perm [.k, .k, .k] _, ⟨congrArg (fun r => Res.ret (runAV r)) (evalT_e hbe).symm, rfl⟩⟩
  have he : e.err = 0 := by simpa using c1
  refine J.skip ?_
  refine thenQ.n ?_
  refine J.seq ?_
  refine J.seq ?_
  refine J.region_lit ?_
  refine JL.q rfl rfl rfl (QW.field_ptr fo36_0 (.tmp rfl) rfl) ?_
  refine JL.q rfl rfl rfl (QW.load_box 1 ty29 (.tmp rfl) rfl (ScT.trip (j := 0) (by omega)) (V.cs_length _ _)) ?_
  refine JL.q rfl rfl rfl (QW.field_ptr fo36_1 (.tmp rfl) rfl) ?_
  refine JL.q rfl rfl rfl (QW.load_box 1 ty29 (.tmp rfl) rfl (ScT.trip (j := 1) (by omega)) (V.cs_length _ _)) ?_
  refine JL.q rfl rfl rfl (QW.field_ptr fo36_2 (.tmp rfl) rfl) ?_
  refine JL.q rfl rfl rfl (QW.load_box 1 ty29 (.tmp rfl) rfl (ScT.trip (j := 2) (by omega)) (V.cs_length _ _)) ?_
  refine JL.q rfl rfl rfl (QW.buildA (idx := [0, 1, 2]) (sz := 5) (by kernel_rfl) z58 rfl (.cons (.tmp rfl) (.cons (.tmp rfl) (.cons (.tmp rfl) .nil))) rfl rfl rfl (fill_sc s)) ?_
  refine JL.q rfl rfl rfl (QW.move .const) ?_
  refine JL.nil ?_
  refine thenQ.n ?_
  refine J.block ?_
  refine J.loopK (ι := Nat) [2, 3, 4, 6, 25] (fun j => [(26, .c (.int .i64 (j : Int))), (7, .c (.int .i64 0)), (8, .c (.int .i64 0))]) (fun _ oo => oo) (fun j => j ≤ 3 ∧ ∀ i, i < j → (s.at i).err = 0) (fun j => 3 - j) 0 (⟨by omega, fun i hi => by omega⟩) (Wk.re (.cons rfl (.refl _) (.cons rfl (.refl _) (.cons rfl (.refl _) (.cons rfl (.refl _) (.cons rfl (.refl _) (.cons rfl (.refl _) (.cons rfl (.refl _) (.cons rfl (.refl _) .nil)))))))) (Reown.refl _) (fun _ h => by first | exact h | simp [h])) ?_
  intro j ⟨hj, hall⟩
  refine J.conv (by (try simp only [id_eq, stepsO, List.map_cons, List.map_nil, valO, nthO, curO, mrg, List.reverse_cons, List.reverse_nil, List.nil_append, List.cons_append, List.append_nil, List.getElem?_cons_zero, List.getElem?_cons_succ, Option.map_some, Option.getD_some, List.set_cons_zero, List.set_cons_succ, AV.cellsOf, splice_zero, splice_succ, Nat.zero_add, Nat.reduceAdd]); rfl) ?_
  refine J.seq ?_
  refine J.region_lit ?_
  refine JL.q rfl rfl rfl (QW.lss (.tmp rfl) .const) ?_
  refine JL.nil ?_
  refine thenQ.n ?_
  refine J.seq ?_
  refine J.cond (.tmp rfl) (fun c2 => ?_) (fun c2 => ?_)
  · skip
    have hj3 : j < 3 := by (simp at c2; omega)
    refine J.skip ?_
    refine thenQ.n ?_
    refine J.seq ?_
    refine J.block ?_
    refine J.seq ?_
    refine J.region_lit ?_
    refine JL.q rfl rfl rfl (QW.indexA (zs := (s.at j).cs false) (ln := 3) (et := 29) (by kernel_rfl) ty29 (.tmp rfl) (.tmp rfl) rfl (by omega) (ScT.trip hj3) (V.cs_length _ _)) ?_
    refine JL.alloc z29 rfl rfl fun b11 => ?_
    first | refine JL.store_boxF 0 ty29 (.tmp rfl) rfl (.tmp rfl) (by first | rfl | assumption) (by first | rfl | exact V.cs_length _ _) (by first | rfl | exact V.cs_length _ _) rfl ?_ | refine JL.store_box 0 ty29 (.tmp rfl) rfl (.tmp rfl) (by first | rfl | assumption) (by first | rfl | exact V.cs_length _ _) rfl rfl rfl ?_
    refine JL.nil ?_
    refine thenQ.n ?_
    refine J.seq ?_
    refine J.region_lit ?_
    refine JL.q rfl rfl rfl (by first | exact QW.load_box 0 ty29 (.tmp rfl) rfl rfl rfl | exact QW.load_box 0 ty29 (.tmp rfl) rfl (take_at (V.cs_length _ _) rfl) (V.cs_length _ _)) ?_
    refine JL.q rfl rfl rfl (QW.call gofn18 (.cons (.tmp rfl) .nil) (check_ok Vc.self (ScT.at_wf hw j))) ?_
    refine JL.q rfl rfl rfl (QW.assign (.tmp rfl)) ?_
    refine JL.nil ?_
    refine thenQ.n ?_
    refine J.seq ?_
    refine J.region_lit ?_
    refine JL.q rfl rfl rfl (QW.move (.tmp rfl)) ?_
    refine JL.q rfl rfl rfl (QW.neq (.tmp rfl) .const) ?_
    refine JL.nil ?_
    refine thenQ.n ?_
    refine J.cond (.tmp rfl) (fun c3 => ?_) (fun c3 => ?_)
    · skip
      have hbad : ¬ (s.at j).err = 0 := by simpa using c3
      refine J.seq ?_
      refine J.region_lit ?_
      refine JL.q rfl rfl rfl (QW.build (idx := []) pl29 z29 rfl .nil rfl rfl rfl rfl) ?_
      refine JL.q rfl rfl rfl (QW.move (.tmp rfl)) ?_
      first | refine JL.store_boxF 1 ty29 (.tmp rfl) rfl (.tmp rfl) (by first | rfl | assumption) (by first | rfl | exact V.cs_length _ _) (by first | rfl | exact V.cs_length _ _) rfl ?_ | refine JL.store_box 1 ty29 (.tmp rfl) rfl (.tmp rfl) (by first | rfl | assumption) (by first | rfl | exact V.cs_length _ _) rfl rfl rfl ?_
      refine JL.q rfl rfl rfl (QW.assign .const) ?_
      refine JL.q rfl rfl rfl (QW.assign (.tmp rfl)) ?_
      refine JL.nil ?_
      refine thenQ.n ?_
      refine J.ret ?_
      refine blkQ.r ?_
      refine thenQ.r ?_
      refine thenQ.r ?_
      refine blkQ.r ?_
      refine thenQ.r ?_
      exact ⟨_, selP [.k, .k, .k, .k] _, _, RetEv.three rfl (by first | exact REv.cell 1 ty29 rfl rfl rfl rfl (.aggL (.cons (.refl _) (.cons (.refl _) (.cons (.refl _) (.cons (.nil true false _) (.cons (.nil true false _) .nil)))))) | exact REv.cell 1 ty29 rfl rfl (take_at (V.cs_length _ _) rfl) (V.cs_length _ _) (.aggL (.cons (.refl _) (.cons (.refl _) (.cons (.refl _) (.cons (.nil true false _) (.cons (.nil true false _) .nil))))))) (REv.tmp rfl (.refl _)) (REv.tmp rfl (.refl _)), rfl, sel_perm [.k, .k, .k, .k] _, ⟨congrArg (fun r => Res.ret (runAV r)) (evalT_s he hj3 hall hbad).symm, rfl⟩⟩
    have hgo : (s.at j).err = 0 := by simpa using c3
    refine J.skip ?_
    refine blkQ.n ?_
    refine thenQ.n ?_
    refine J.region_lit ?_
    refine JL.q rfl rfl rfl (QW.add (.tmp rfl) .const (by first | exact w64n (by first | rfl | omega | (simp; done)) (by omega) | exact w64 (by omega) | rfl)) ?_
    refine JL.q rfl rfl rfl (QW.move (.tmp rfl)) ?_
    refine JL.nil ?_
    refine thenQ.n ?_
    exact ⟨j + 1, ⟨hj3, fun i hi => by rcases Nat.lt_succ_iff_lt_or_eq.1 hi with h | rfl; exact hall i h; exact hgo⟩, by omega, Wk.re (.cons rfl (.refl _) (.cons rfl (.refl _) (.cons rfl (.refl _) (.cons rfl (.refl _) (.cons rfl (.refl _) (.cons rfl (.refl _) (.cons rfl (.refl _) (.cons rfl (.refl _) .nil)))))))) (Reown.dropN 1 _ rfl) (fun _ h => by first | exact h | simp [h])⟩
  obtain rfl : j = 3 := by (simp at c2; omega)
  have h3 := at_all hall
  refine J.exit ?_
  refine thenQ.x ?_
  refine thenQ.x ?_
  refine blkQ.hit ?_
  refine thenQ.n ?_
  refine J.seq ?_
  refine J.seq ?_
  refine J.region_lit ?_
  refine JL.q rfl rfl rfl (QW.move (.tmp rfl)) ?_
  refine JL.q rfl rfl rfl (QW.lss (.tmp rfl) .const) ?_
  refine JL.q rfl rfl rfl (QW.move (.tmp rfl)) ?_
  refine JL.g rfl rfl rfl rfl rfl (fun hg => (QW.move (.tmp rfl))) ?_
  refine JL.g rfl rfl rfl rfl rfl (fun hg => (QW.gtr (.when rfl hg) .const)) ?_
  refine JL.q rfl rfl rfl (QW.pick_or (.tmp rfl) (.tmp rfl)) ?_
  refine JL.nil ?_
  refine thenQ.n ?_
  refine J.cond (.tmp rfl) (fun c3 => ?_) (fun c3 => ?_)
  · skip
    have hr : f < 0 ∨ 4096 < f := by simpa using c3
    refine J.seq ?_
    refine J.region_lit ?_
    refine JL.q rfl rfl rfl (QW.build (idx := []) pl29 z29 rfl .nil rfl rfl rfl rfl) ?_
    first | refine JL.store_boxF 0 ty29 (.tmp rfl) rfl (.tmp rfl) (by first | rfl | assumption) (by first | rfl | exact V.cs_length _ _) (by first | rfl | exact V.cs_length _ _) rfl ?_ | refine JL.store_box 0 ty29 (.tmp rfl) rfl (.tmp rfl) (by first | rfl | assumption) (by first | rfl | exact V.cs_length _ _) rfl rfl rfl ?_
    refine JL.q rfl rfl rfl (QW.assign .const) ?_
    refine JL.q rfl rfl rfl (QW.assign .const) ?_
    refine JL.nil ?_
    refine thenQ.n ?_
    refine J.ret ?_
    refine thenQ.r ?_
    exact ⟨_, selP [.k, .k, .k] _, _, RetEv.three rfl (by first | exact REv.cell 0 ty29 rfl rfl rfl rfl (.aggL (.cons (.refl _) (.cons (.refl _) (.cons (.refl _) (.cons (.nil true false _) (.cons (.nil true false _) .nil)))))) | exact REv.cell 0 ty29 rfl rfl (take_at (V.cs_length _ _) rfl) (V.cs_length _ _) (.aggL (.cons (.refl _) (.cons (.refl _) (.cons (.refl _) (.cons (.nil true false _) (.cons (.nil true false _) .nil))))))) (REv.tmp rfl (.refl _)) (REv.tmp rfl (.refl _)), rfl, sel_perm [.k, .k, .k] _, ⟨congrArg (fun r => Res.ret (runAV r)) (evalT_f he h3 hr).symm, rfl⟩⟩
  have hr : ¬ (f < 0 ∨ 4096 < f) := by (simp at c3; omega)
  refine J.skip ?_
  refine thenQ.n ?_
  refine J.seq ?_
  refine J.region_lit ?_
  refine JL.q rfl rfl rfl (by first | exact QW.load_box 2 ty34 (.tmp rfl) rfl rfl rfl | exact QW.load_box 2 ty34 (.tmp rfl) rfl (take_at (EX.cs_length _ _) rfl) (EX.cs_length _ _)) ?_
  refine JL.q rfl rfl rfl (QW.load_box 1 ty36 (.tmp rfl) rfl (take_at (ScT.cs_len _) rfl) (ScT.cs_len _)) ?_
  refine JL.q rfl rfl rfl (QW.move (.tmp rfl)) ?_
  refine JL.q rfl rfl rfl (QW.call gofn24 (.cons (.tmp rfl) (.cons (.tmp rfl) (.cons (.tmp rfl) .nil))) (run_ok Xc.self hew (EX.fine_of he) (ScT.good_of hw h3) ⟨by omega, by omega⟩)) ?_
  refine JL.q rfl rfl rfl (QW.extract (.tmp rfl) rfl) ?_
  refine JL.q rfl rfl rfl (QW.extract (.tmp rfl) rfl) ?_
  refine JL.q rfl rfl rfl (QW.extract (.tmp rfl) rfl) ?_
  first | refine JL.store_boxF 0 ty29 (.tmp rfl) rfl (.tmp rfl) (by first | rfl | assumption) (by first | rfl | exact V.cs_length _ _) (by first | rfl | exact V.cs_length _ _) rfl ?_ | refine JL.store_box 0 ty29 (.tmp rfl) rfl (.tmp rfl) (by first | rfl | assumption) (by first | rfl | exact V.cs_length _ _) rfl rfl rfl ?_
  refine JL.q rfl rfl rfl (QW.assign (.tmp rfl)) ?_
  refine JL.q rfl rfl rfl (QW.assign (.tmp rfl)) ?_
  refine JL.nil ?_
  refine thenQ.n ?_
  refine J.ret ?_
  exact ⟨_, selP [.k, .k, .k] _, _, RetEv.three rfl (by first | exact REv.cell 0 ty29 rfl rfl rfl rfl (.refl _) | exact REv.cell 0 ty29 rfl rfl (take_at (V.cs_length _ _) rfl) (V.cs_length _ _) (.refl _)) (REv.tmp rfl (.refl _)) (REv.tmp rfl (.refl _)), rfl, sel_perm [.k, .k, .k] _, ⟨congrArg (fun r => Res.ret (runAV r)) (evalT_r he h3 hr).symm, rfl⟩⟩
end Go.Proofs.YtjhonjdhanlbkaaGreat.J

/- What scopes among the inputs read as. -/
namespace Go.Proofs.YtjhonjdhanlbkaaGreat.J
open Go Go.RowKit
set_option maxRecDepth 10000
set_option maxHeartbeats 4000000
end Go.Proofs.YtjhonjdhanlbkaaGreat.J

/- More fuel changes nothing but what is left. -/
namespace Go.Proofs.YtjhonjdhanlbkaaGreat.J
open Go Go.RowKit
variable {α β : Type}
end Go.Proofs.YtjhonjdhanlbkaaGreat.J

/- An error is never 0; what is told of a reckoning. -/
namespace Go.Proofs.YtjhonjdhanlbkaaGreat.J
open Go Go.RowKit
variable {α β : Type}
def Nz (r : Except Int α) : Prop := ∀ c, r = .error c → c ≠ 0
theorem Nz.ok (v : α) : Nz (.ok v) := fun c h => by cases h
theorem Nz.er {c : Int} (h : c ≠ 0) : Nz (.error c : Except Int α) := fun c' h' => by cases h'; exact h
theorem Nz.ite {p : Prop} [Decidable p] {r q : Except Int α} (h1 : p → Nz r) (h2 : ¬ p → Nz q) : Nz (if p then r else q) := by
  by_cases h : p
  · rw [if_pos h]; exact h1 h
  · rw [if_neg h]; exact h2 h
theorem Nz.tru {r : ER V} (h : Nz r) : Nz (truE r) := by
  cases r with
  | error c => exact fun c' h' => by cases h'; exact h c rfl
  | ok p => exact Nz.ite (fun _ => .ok _) fun _ => .er (by decide)
theorem getE_nz (v : V) (s : StT) : Nz (getE v s) := by
  unfold getE; by_cases h : (v.getv [s]).2 = 0
  · rw [if_pos h]; exact .ok _
  · rw [if_neg h]; exact .er h
theorem setE_nz (v : V) (s : StT) (x : V) : Nz (setE v s x) := Nz.ite (fun _ => .ok _) fun _ => .er (by decide)
theorem madeE_nz (v : V) : Nz (madeE v) := Nz.ite (fun _ => .ok _) fun _ => .er (by decide)
theorem one_nz (o : Int) (t : Str) (a : V) : Nz (oneE o t a) := by
  unfold oneE
  repeat' with_reducible refine Nz.ite (fun _ => ?_) (fun _ => ?_)
  all_goals first | exact getE_nz _ _ | exact .ok _ | exact .er (by decide)
theorem two_nz (o : Int) (t : Str) (a b : V) : Nz (twoE o t a b) := by
  unfold twoE
  repeat' with_reducible refine Nz.ite (fun _ => ?_) (fun _ => ?_)
  all_goals first | exact getE_nz _ _ | exact setE_nz _ _ _ | exact .ok _ | exact .er (by decide)
theorem plain_nz {o : Int} {t : Str} {l : List V} (h : o = 23 ∨ l.length = 1 ∨ l.length = 2) : Nz (plainE o t l) := by
  unfold plainE
  refine Nz.ite (fun _ => madeE_nz _) fun h23 => ?_
  match l, h with
  | [a], _ => exact one_nz _ _ _
  | [a, b], _ => exact two_nz _ _ _ _
  | [], h => simp at h; exact absurd h h23
  | _ :: _ :: _ :: _, h => simp at h; exact absurd h h23
theorem map_nz {g : V → Int → ER V} (hg : ∀ x f, Nz (g x f)) : ∀ l f, Nz (mapE g l f)
  | [], f => .ok _
  | x :: r, f => by
    have h1 := hg x f
    rw [mapE]
    cases h : g x f with
    | error c => exact .er (h1 c h)
    | ok p =>
      have h2 := map_nz hg r p.2
      simp only []
      cases h3 : mapE g r p.2 with
      | error c => exact .er (h2 c h3)
      | ok q => exact .ok _
theorem fil_nz {g : V → Int → ER Bool} (hg : ∀ x f, Nz (g x f)) : ∀ l f, Nz (filE g l f)
  | [], f => .ok _
  | x :: r, f => by
    have h1 := hg x f
    rw [filE]
    cases h : g x f with
    | error c => exact .er (h1 c h)
    | ok p =>
      have h2 := fil_nz hg r p.2
      simp only []
      cases h3 : filE g r p.2 with
      | error c => exact .er (h2 c h3)
      | ok q => exact .ok _
theorem fnd_nz {g : V → Int → ER Bool} (hg : ∀ x f, Nz (g x f)) : ∀ l f, Nz (fndE g l f)
  | [], f => .er (by decide)
  | x :: r, f => by
    have h1 := hg x f
    rw [fndE]
    cases h : g x f with
    | error c => exact .er (h1 c h)
    | ok p => exact Nz.ite (fun _ => .ok _) fun _ => fnd_nz hg r p.2
theorem madeF_nz {r : ER (List V)} (h : Nz r) : Nz (madeF r) := by
  unfold madeF
  cases r with
  | error c => exact .er (h c rfl)
  | ok p =>
    have h2 := madeE_nz (.li p.1)
    simp only []
    cases h3 : madeE (.li p.1) with
    | error c => exact .er (h2 c h3)
    | ok q => exact .ok _
theorem over_nz {o : Int} {g : V → Int → ER V} {r : ER V} (hg : ∀ x f, Nz (g x f)) (hr : Nz r) : Nz (overE o g r) := by
  unfold overE
  cases r with
  | error c => exact .er (hr c rfl)
  | ok p => exact Nz.ite (fun _ => .er (by decide)) fun _ => Nz.ite (fun _ => madeF_nz (map_nz hg _ _)) fun _ => Nz.ite (fun _ => madeF_nz (fil_nz (fun x f => Nz.tru (hg x f)) _ _)) fun _ => fnd_nz (fun x f => Nz.tru (hg x f)) _ _
theorem evs_len : ∀ (l : List EX) {s : ScT} {f f' : Int} {vs : List V}, EX.evs l s f = .ok (vs, f') → vs.length = l.length
  | [], s, f, f', vs, h => by rw [EX.evs] at h; cases h; rfl
  | x :: r, s, f, f', vs, h => by
    rw [EX.evs] at h
    cases h1 : x.ev s f with
    | error c => rw [h1] at h; cases h
    | ok p =>
      rw [h1] at h
      simp only [] at h
      cases h2 : EX.evs r s p.2 with
      | error c => rw [h2] at h; cases h
      | ok q =>
        rw [h2] at h; cases h
        simp [evs_len r h2]
mutual
theorem EX.ev_nz : ∀ (e : EX) (s : ScT) (f : Int), e.Fine → Nz (e.ev s f)
  | .mk o b t l, s, f, hf => by
    obtain ⟨h0, h30, h8, ha⟩ := EX.ok_args hf.part
    have hk : ∀ x ∈ l, x.Fine := fun x hx => hf.kid hx
    rw [EX.ev]
    refine Nz.ite (fun _ => .er (by decide)) fun _ => ?_
    refine Nz.ite (fun _ => .ok _) fun n0 => Nz.ite (fun _ => .ok _) fun n1 => Nz.ite (fun _ => .ok _) fun n2 => Nz.ite (fun _ => .ok _) fun n3 => Nz.ite (fun _ => .ok _) fun n4 => Nz.ite (fun _ => .ok _) fun n5 => Nz.ite (fun _ => .ok _) fun n6 => Nz.ite (fun _ => .ok _) fun n7 => ?_
    refine Nz.ite (fun c => EX.evAO_nz false l s _ hk (by omega)) fun n18 => Nz.ite (fun c => EX.evAO_nz true l s _ hk (by omega)) fun n19 => Nz.ite (fun c => EX.evIf_nz l s _ hk (by omega)) fun n21 => Nz.ite (fun c => EX.evOv_nz o l s _ hk (by omega)) fun nov => ?_
    have h1 := EX.evs_nz l s (f - 1) hk
    cases h : EX.evs l s (f - 1) with
    | error c => exact .er (h1 c h)
    | ok p =>
      have h2 := evs_len l h
      have h3 := plain_nz (o := o) (t := t) (l := p.1) (by omega)
      simp only []
      cases h4 : plainE o t p.1 with
      | error c => exact .er (h3 c h4)
      | ok q => exact .ok _
theorem EX.evs_nz : ∀ (l : List EX) (s : ScT) (f : Int), (∀ x ∈ l, x.Fine) → Nz (EX.evs l s f)
  | [], s, f, hf => by rw [EX.evs]; exact .ok _
  | x :: r, s, f, hf => by
    have h1 := EX.ev_nz x s f (hf x (by simp))
    rw [EX.evs]
    cases h : x.ev s f with
    | error c => exact .er (h1 c h)
    | ok p =>
      have h2 := EX.evs_nz r s p.2 (fun z hz => hf z (by simp [hz]))
      simp only []
      cases h3 : EX.evs r s p.2 with
      | error c => exact .er (h2 c h3)
      | ok q => exact .ok _
theorem EX.evAO_nz : ∀ (k : Bool) (l : List EX) (s : ScT) (f : Int), (∀ x ∈ l, x.Fine) → l.length = 2 → Nz (EX.evAO k l s f)
  | k, [], s, f, hf, h2 => by simp at h2
  | k, [_], s, f, hf, h2 => by simp at h2
  | k, x :: y :: _, s, f, hf, h2 => by
    have h1 := Nz.tru (EX.ev_nz x s f (hf x (by simp)))
    rw [EX.evAO]
    cases h : truE (x.ev s f) with
    | error c => exact .er (h1 c h)
    | ok p =>
      refine Nz.ite (fun _ => .ok _) fun _ => ?_
      have h3 := Nz.tru (EX.ev_nz y s p.2 (hf y (by simp)))
      cases h4 : truE (y.ev s p.2) with
      | error c => exact .er (h3 c h4)
      | ok q => exact .ok _
theorem EX.evIf_nz : ∀ (l : List EX) (s : ScT) (f : Int), (∀ x ∈ l, x.Fine) → l.length = 3 → Nz (EX.evIf l s f)
  | [], s, f, hf, h2 => by simp at h2
  | [_], s, f, hf, h2 => by simp at h2
  | [_, _], s, f, hf, h2 => by simp at h2
  | x :: y :: z :: _, s, f, hf, h2 => by
    have h1 := Nz.tru (EX.ev_nz x s f (hf x (by simp)))
    rw [EX.evIf]
    cases h : truE (x.ev s f) with
    | error c => exact .er (h1 c h)
    | ok p => exact Nz.ite (fun _ => EX.ev_nz y s p.2 (hf y (by simp))) fun _ => EX.ev_nz z s p.2 (hf z (by simp))
theorem EX.evOv_nz : ∀ (o : Int) (l : List EX) (s : ScT) (f : Int), (∀ x ∈ l, x.Fine) → l.length = 2 → Nz (EX.evOv o l s f)
  | o, [], s, f, hf, h2 => by simp at h2
  | o, [_], s, f, hf, h2 => by simp at h2
  | o, x :: y :: _, s, f, hf, h2 => by
    rw [EX.evOv]
    exact over_nz (fun it g => EX.ev_nz y { s with it } g (hf y (by simp))) (EX.ev_nz x s f (hf x (by simp)))
end
theorem evalT_cases (e : EX) (s : ScT) (f : Int) : (∃ c, c ≠ 0 ∧ evalT e s f = (.nil, 0, c)) ∨ ∃ v f', e.ev s f = .ok (v, f') ∧ evalT e s f = (v, f', 0) ∧ e.err = 0 ∧ (s.st.err = 0 ∧ s.ev.err = 0 ∧ s.it.err = 0) ∧ 0 ≤ f ∧ f ≤ 4096 := by
  unfold evalT
  by_cases h1 : e.err = 0
  · rw [if_neg (by simp [h1])]
    by_cases h2 : s.st.err = 0
    · rw [if_neg (by simp [h2])]
      by_cases h3 : s.ev.err = 0
      · rw [if_neg (by simp [h3])]
        by_cases h4 : s.it.err = 0
        · rw [if_neg (by simp [h4])]
          by_cases h5 : f < 0 ∨ 4096 < f
          · rw [if_pos h5]; exact .inl ⟨4, by decide, rfl⟩
          · rw [if_neg h5]
            cases h : e.ev s f with
            | error c => exact .inl ⟨c, EX.ev_nz e s f (EX.fine_of h1) c h, by unfold runT; rw [h]⟩
            | ok p => exact .inr ⟨p.1, p.2, rfl, by unfold runT; rw [h], h1, ⟨h2, h3, h4⟩, by omega, by omega⟩
        · rw [if_pos h4]; exact .inl ⟨_, h4, rfl⟩
      · rw [if_pos h3]; exact .inl ⟨_, h3, rfl⟩
    · rw [if_pos h2]; exact .inl ⟨_, h2, rfl⟩
  · rw [if_pos h1]; exact .inl ⟨_, h1, rfl⟩
end Go.Proofs.YtjhonjdhanlbkaaGreat.J

/- The laws of reckoning: the small ones; EvalMay, EvalFuel. -/
namespace Go.Proofs.YtjhonjdhanlbkaaGreat.J
open Go Go.RowKit
set_option maxRecDepth 10000
set_option maxHeartbeats 4000000
def xeN : EX := .mk 11 0 [] [.mk 3 4607182418800017408 [] [], .mk 3 4611686018427387904 [] []]
theorem xeN_wf : xeN.wf := .mk (by decide) (by decide) (by decide) (by decide) (fun x h => by simp at h; rcases h with rfl | rfl <;> exact .mk (by decide) (by decide) (by decide) (by decide) (fun _ h => by cases h))
def scN : ScT := ⟨.nil, .nil, .nil⟩
theorem scN_wf : scN.st.wf ∧ scN.ev.wf ∧ scN.it.wf := ⟨V.wf_nil, V.wf_nil, V.wf_nil⟩
theorem add12 : arithN .add 4607182418800017408 4611686018427387904 = 4613937818241073152 := by kernel_rfl
theorem evs_cons {x : EX} {r : List EX} {s : ScT} {f f1 f2 : Int} {v : V} {vs : List V} (h : x.ev s f = .ok (v, f1)) (h2 : EX.evs r s f1 = .ok (vs, f2)) : EX.evs (x :: r) s f = .ok (v :: vs, f2) := by
  rw [EX.evs, h]; simp only []; rw [h2]
theorem xeN_ok : evalT xeN scN 5 = (.nu 4613937818241073152, 2, 0) := by
  have h1 : xeN.err = 0 := by kernel_rfl
  have h2 : scN.st.err = 0 ∧ scN.ev.err = 0 ∧ scN.it.err = 0 := by decide
  rw [evalT_r h1 h2 (by decide)]
  have h3 : EX.evs xeN.args scN 4 = .ok ([.nu 4607182418800017408, .nu 4611686018427387904], 2) := by
    show EX.evs [.mk 3 4607182418800017408 [] [], .mk 3 4611686018427387904 [] []] scN 4 = _
    exact evs_cons (f1 := 3) (ev_3 (by decide)) (evs_cons (f1 := 2) (ev_3 (by decide)) (by rw [EX.evs]))
  refine runT_ok ((ev_pl (by decide) (by decide)).trans (plE_ok h3 ?_))
  show plainE 11 [] [.nu 4607182418800017408, .nu 4611686018427387904] = _
  rw [pe11 (by decide)]
  show Except.ok (V.nu (arithN .add 4607182418800017408 4611686018427387904)) = _
  rw [add12]
theorem xeN_le {F : List (Value × AV)} : Le F (.agg [.c (.int .i64 11), .c (.int .u64 0), .c (str []), .sl true true et34 [(EX.mk 3 4607182418800017408 [] []).raw (.slice none 0 0), (EX.mk 3 4611686018427387904 [] []).raw (.slice none 0 0)]]) (.agg (xeN.cs true)) :=
  .aggL (.cons (.refl _) (.cons (.refl _) (.cons (.refl _) (.cons (.slL (fun h => h) rfl (EX.css_sz true xeN.args) (.cons (.refl _) (.cons (.refl _) (.cons (.refl _) (.cons (.nil true false _) (.cons (.refl _) (.cons (.refl _) (.cons (.refl _) (.cons (.nil true false _) .nil))))))))) .nil))))
theorem scN_le {F : List (Value × AV)} : Le F (.agg (zV ++ zV ++ zV)) (.agg scN.cs) :=
  .aggL (.cons (.refl _) (.cons (.refl _) (.cons (.refl _) (.cons (.nil false false _) (.cons (.nil false false _) (.cons (.refl _) (.cons (.refl _) (.cons (.refl _) (.cons (.nil false false _) (.cons (.nil false false _) (.cons (.refl _) (.cons (.refl _) (.cons (.refl _) (.cons (.nil false false _) (.cons (.nil false false _) .nil)))))))))))))))
theorem num15_ok (n : Int) : Fn Tryz.prog 14 [.c (.int .i64 n)] (.c (.int .i64 n)) := by
  refine AC.of_J Tryz.func14 rfl Tryz.ntmps14 rfl fun w0 A0 => ?_
  refine J.seq ?_
  refine J.region_lit ?_
  refine JL.q rfl rfl rfl (QW.assign .const) ?_
  refine JL.nil ?_
  refine thenQ.n ?_
  refine J.seq ?_
  refine J.region_lit ?_
  refine JL.q rfl rfl rfl (QW.move (.tmp rfl)) ?_
  refine JL.q rfl rfl rfl (QW.assign (.tmp rfl)) ?_
  refine JL.nil ?_
  refine thenQ.n ?_
  refine J.ret ?_
  exact ⟨_, selP [] _, _, RetEv.one rfl (REv.tmp rfl (.refl _)), rfl, sel_perm [] _, ⟨rfl, rfl⟩⟩
theorem of15_ok {s : ScT} (hw : s.st.wf ∧ s.ev.wf ∧ s.it.wf) : Fn Tryz.prog 10 [.agg s.cs] (.agg s.cs) := by
  obtain ⟨⟨ka, ua, ta, va, ia⟩, ⟨kb, ub, tb, vb, ib⟩, ⟨kc, uc, tc, vc, ic⟩⟩ := s
  obtain ⟨hw1, hw2, hw3⟩ := hw
  refine AC.of_J Tryz.func10 rfl Tryz.ntmps10 rfl fun w0 A0 => ?_
  refine J.seq ?_
  refine J.region_lit ?_
  refine JL.box_agg (.tmp rfl) rfl fun b1 => ?_
  refine JL.alloc z36 rfl rfl fun b2 => ?_
  refine JL.nil ?_
  refine thenQ.n ?_
  refine J.seq ?_
  refine J.regionX mixed ?_
  refine JX.f 0 [] rfl rfl rfl rfl rfl rfl rfl rfl (fun ow_ => (.q rfl (QW.field_ptr fo31_0 (.tmp rfl) rfl))) ?_
  refine JX.o 1 1 [3] rfl rfl rfl rfl rfl rfl rfl rfl rfl (fun ow_ ho_ => (.q rfl (by first | exact QW.load_box 1 ty29 (.tmp rfl) ho_ rfl rfl | exact QW.load_box 1 ty29 (.tmp rfl) ho_ (take_at (V.cs_length _ _) rfl) (V.cs_length _ _)))) ?_
  refine JX.f 2 [4] rfl rfl rfl rfl rfl rfl rfl rfl (fun ow_ => (.q rfl (QW.call gofn22 (.cons (.tmp rfl) .nil) (copyValue_rd (fr := false) (v := .mk ka ua ta va ia) Vc.self hw1)))) ?_
  refine JX.f 3 [] rfl rfl rfl rfl rfl rfl rfl rfl (fun ow_ => (.q rfl (QW.field_ptr fo31_1 (.tmp rfl) rfl))) ?_
  refine JX.o 4 1 [6] rfl rfl rfl rfl rfl rfl rfl rfl rfl (fun ow_ ho_ => (.q rfl (by first | exact QW.load_box 1 ty29 (.tmp rfl) ho_ rfl rfl | exact QW.load_box 1 ty29 (.tmp rfl) ho_ (take_at (V.cs_length _ _) rfl) (V.cs_length _ _)))) ?_
  refine JX.f 5 [7] rfl rfl rfl rfl rfl rfl rfl rfl (fun ow_ => (.q rfl (QW.call gofn22 (.cons (.tmp rfl) .nil) (copyValue_rd (fr := false) (v := .mk kb ub tb vb ib) Vc.self hw2)))) ?_
  refine JX.f 6 [] rfl rfl rfl rfl rfl rfl rfl rfl (fun ow_ => (.q rfl (QW.field_ptr fo31_2 (.tmp rfl) rfl))) ?_
  refine JX.o 7 1 [9] rfl rfl rfl rfl rfl rfl rfl rfl rfl (fun ow_ ho_ => (.q rfl (by first | exact QW.load_box 1 ty29 (.tmp rfl) ho_ rfl rfl | exact QW.load_box 1 ty29 (.tmp rfl) ho_ (take_at (V.cs_length _ _) rfl) (V.cs_length _ _)))) ?_
  refine JX.f 8 [10] rfl rfl rfl rfl rfl rfl rfl rfl (fun ow_ => (.q rfl (QW.call gofn22 (.cons (.tmp rfl) .nil) (copyValue_rd (fr := false) (v := .mk kc uc tc vc ic) Vc.self hw3)))) ?_
  refine JX.f 9 [5, 8, 11] rfl rfl rfl rfl rfl rfl rfl rfl (fun ow_ => (.q rfl (QW.build (idx := [0, 1, 2]) pl36 z36 rfl (.cons (.tmp rfl) (.cons (.tmp rfl) (.cons (.tmp rfl) .nil))) rfl rfl rfl rfl))) ?_
  refine JX.one 10 [true, true, true, true, true, true, true, true, true, true] rfl (by kernel_rfl) (by kernel_rfl) rfl rfl (by kernel_rfl) rfl fun bs10_ pe_ ex_ => ?_
  refine JL.conv (by (try simp only [vlF, bxF, tkM, lvM, Flt.val, Flt.bx, List.append_assoc, List.take_succ_cons, List.take_zero, List.append_eq, id_eq, stepsO, List.map_cons, List.map_nil, valO, nthO, curO, mrg, List.reverse_cons, List.reverse_nil, List.nil_append, List.cons_append, List.append_nil, List.getElem?_cons_zero, List.getElem?_cons_succ, Option.map_some, Option.getD_some, List.set_cons_zero, List.set_cons_succ, AV.cellsOf, splice_zero, splice_succ, Nat.zero_add, Nat.reduceAdd]); rfl) ?_
  first | refine JL.store_boxF 0 ty36 (.tmp rfl) rfl (.tmp rfl) (by first | rfl | assumption) (by first | rfl | exact ScT.cs_len _) (by first | rfl | exact ScT.cs_len _) rfl ?_ | refine JL.store_box 0 ty36 (.tmp rfl) rfl (.tmp rfl) (by first | rfl | assumption) (by first | rfl | exact ScT.cs_len _) rfl rfl rfl ?_
  refine JL.nil ?_
  refine thenQ.n ⟨[], _, rfl, rfl, rfl, rfl, rfl, Reown.tkN 2 rfl, trivial, trivial, ?_⟩
  refine JX.conv (S' := [10, 9, 8, 7, 6, 5, 4, 3, 2, 1, 0]) rfl (by (try simp only [lvM]); rfl) (by (try simp only [vlF, bxF, tkM, lvM, Flt.val, Flt.bx, List.append_assoc, List.take_succ_cons, List.take_zero, List.append_eq, id_eq, stepsO, List.map_cons, List.map_nil, valO, nthO, curO, mrg, List.reverse_cons, List.reverse_nil, List.nil_append, List.cons_append, List.append_nil, List.getElem?_cons_zero, List.getElem?_cons_succ, Option.map_some, Option.getD_some, List.set_cons_zero, List.set_cons_succ, AV.cellsOf, splice_zero, splice_succ, Nat.zero_add, Nat.reduceAdd]); rfl) ?_
  refine JX.fin (by kernel_rfl) (by kernel_rfl) fun bs_ => ?_
  refine QX.conv (by (try simp only [vlF, bxF, tkM, lvM, Flt.val, Flt.bx, List.append_assoc, List.take_succ_cons, List.take_zero, List.append_eq, id_eq, stepsO, List.map_cons, List.map_nil, valO, nthO, curO, mrg, List.reverse_cons, List.reverse_nil, List.nil_append, List.cons_append, List.append_nil, List.getElem?_cons_zero, List.getElem?_cons_succ, Option.map_some, Option.getD_some, List.set_cons_zero, List.set_cons_succ, AV.cellsOf, splice_zero, splice_succ, Nat.zero_add, Nat.reduceAdd]); rfl) ?_
  refine thenQ.n ?_
  refine J.ret ?_
  exact ⟨_, selP [.k, .k] _, _, RetEv.one rfl (by first | exact REv.cell 0 ty36 rfl rfl rfl rfl (.aggL (.cons (.refl _) (.cons (.refl _) (.cons (.refl _) (.cons (keys_le true false (fun h => by cases h) _) (.cons (items_le true false (fun h => by cases h) _) (.cons (.refl _) (.cons (.refl _) (.cons (.refl _) (.cons (keys_le true false (fun h => by cases h) _) (.cons (items_le true false (fun h => by cases h) _) (.cons (.refl _) (.cons (.refl _) (.cons (.refl _) (.cons (keys_le true false (fun h => by cases h) _) (.cons (items_le true false (fun h => by cases h) _) (.nil))))))))))))))))) | exact REv.cell 0 ty36 rfl rfl (take_at (ScT.cs_len _) rfl) (ScT.cs_len _) (.aggL (.cons (.refl _) (.cons (.refl _) (.cons (.refl _) (.cons (keys_le true false (fun h => by cases h) _) (.cons (items_le true false (fun h => by cases h) _) (.cons (.refl _) (.cons (.refl _) (.cons (.refl _) (.cons (keys_le true false (fun h => by cases h) _) (.cons (items_le true false (fun h => by cases h) _) (.cons (.refl _) (.cons (.refl _) (.cons (.refl _) (.cons (keys_le true false (fun h => by cases h) _) (.cons (items_le true false (fun h => by cases h) _) (.nil)))))))))))))))))), rfl, sel_perm [.k, .k] _, ⟨rfl, rfl⟩⟩
theorem alive15_ok : Fn Tryz.prog 17 [] (.c (.bool true)) := by
  refine AC.of_J Tryz.func17 rfl Tryz.ntmps17 rfl fun w0 A0 => ?_
  refine J.seq ?_
  refine J.region_lit ?_
  refine JL.q rfl rfl rfl (QW.assign .const) ?_
  refine JL.nil ?_
  refine thenQ.n ?_
  refine J.seq ?_
  refine J.region_lit ?_
  refine JL.q rfl rfl rfl (QW.assign .const) ?_
  refine JL.q rfl rfl rfl (QW.assign .const) ?_
  refine JL.nil ?_
  refine thenQ.n ?_
  refine J.seq ?_
  refine J.region_lit ?_
  refine JL.q rfl rfl rfl (QW.move (.tmp rfl)) ?_
  refine JL.q rfl rfl rfl (QW.build (idx := [0, 1]) pl25 z25 rfl (.cons .const (.cons (.tmp rfl) .nil)) rfl rfl rfl rfl) ?_
  refine JL.q rfl rfl rfl (QW.move (.tmp rfl)) ?_
  refine JL.q rfl rfl rfl (QW.build (idx := [0, 1]) pl25 z25 rfl (.cons .const (.cons (.tmp rfl) .nil)) rfl rfl rfl rfl) ?_
  refine JL.q rfl rfl rfl (QW.buildSlice (idx := [0, 1]) (xs := [(EX.mk 3 4607182418800017408 [] []).raw (.slice none 0 0), (EX.mk 3 4611686018427387904 [] []).raw (.slice none 0 0)]) sl23 el25 z25 rfl (.cons (.tmp rfl) (.cons (.tmp rfl) .nil)) rfl rfl rfl rfl rfl rfl rfl rfl rfl) ?_
  refine JL.q rfl rfl rfl (QW.build (idx := [0, 3]) pl25 z25 rfl (.cons .const (.cons (.tmp rfl) .nil)) rfl rfl rfl rfl) ?_
  refine JL.q rfl rfl rfl (QW.call gofn9 (.cons (Ev.le (.tmp rfl) (xeN_le)) .nil) (of14_ok (fr := true) (v := xeN) Xc.self xeN_wf)) ?_
  refine JL.q rfl rfl rfl (QW.build (idx := []) pl36 z36 rfl .nil rfl rfl rfl rfl) ?_
  refine JL.q rfl rfl rfl (QW.call gofn11 (.cons (.tmp rfl) (.cons (Ev.le (.tmp rfl) (scN_le)) (.cons .const .nil))) (xeN_ok ▸ eval_ok (fr := true) (e := xeN) Xc.self xeN_wf (s := scN) scN_wf (f := 5) (by decide))) ?_
  refine JL.q rfl rfl rfl (QW.move (.tmp rfl)) ?_
  refine JL.q rfl rfl rfl (QW.extract (.tmp rfl) rfl) ?_
  refine JL.q rfl rfl rfl (QW.extract (.tmp rfl) rfl) ?_
  refine JL.q rfl rfl rfl (QW.extract (.tmp rfl) rfl) ?_
  refine JL.alloc z29 rfl rfl fun b3 => ?_
  first | refine JL.store_boxF 0 ty29 (.tmp rfl) rfl (.tmp rfl) (by first | rfl | assumption) (by first | rfl | exact V.cs_length _ _) (by first | rfl | exact V.cs_length _ _) rfl ?_ | refine JL.store_box 0 ty29 (.tmp rfl) rfl (.tmp rfl) (by first | rfl | assumption) (by first | rfl | exact V.cs_length _ _) rfl rfl rfl ?_
  refine JL.q rfl rfl rfl (QW.assign (.tmp rfl)) ?_
  refine JL.q rfl rfl rfl (QW.assign (.tmp rfl)) ?_
  refine JL.nil ?_
  refine thenQ.n ?_
  refine J.seq ?_
  refine J.region_lit ?_
  refine JL.q rfl rfl rfl (QW.move (.tmp rfl)) ?_
  refine JL.q rfl rfl rfl (QW.call gofn14 (.cons (.tmp rfl) .nil) (num15_ok _)) ?_
  refine JL.q rfl rfl rfl (QW.eql (.tmp rfl) .const) ?_
  refine JL.q rfl rfl rfl (QW.move (.tmp rfl)) ?_
  refine JL.g rfl rfl rfl rfl rfl (fun hg => (QW.field_ptr fo29_0 (.tmp rfl) rfl)) ?_
  refine JL.g rfl rfl rfl rfl rfl (fun hg => (QW.load_box1 0 ty3 (.when rfl hg) rfl rfl)) ?_
  refine JL.g rfl rfl rfl rfl rfl (fun hg => (QW.eql (.when rfl hg) .const)) ?_
  refine JL.q rfl rfl rfl (QW.pick_and (.tmp rfl) (.tmp rfl)) ?_
  refine JL.q rfl rfl rfl (QW.move (.tmp rfl)) ?_
  refine JL.g rfl rfl rfl rfl rfl (fun hg => (QW.field_ptr fo29_1 (.tmp rfl) rfl)) ?_
  refine JL.g rfl rfl rfl rfl rfl (fun hg => (QW.load_box1 0 ty22 (.when rfl hg) rfl rfl)) ?_
  refine JL.g rfl rfl rfl rfl rfl (fun hg => (QW.eql (.when rfl hg) .const)) ?_
  refine JL.q rfl rfl rfl (QW.pick_and (.tmp rfl) (.tmp rfl)) ?_
  refine JL.q rfl rfl rfl (QW.move (.tmp rfl)) ?_
  refine JL.g rfl rfl rfl rfl rfl (fun hg => (QW.move (.tmp rfl))) ?_
  refine JL.g rfl rfl rfl rfl rfl (fun hg => (QW.eql (.when rfl hg) .const)) ?_
  refine JL.q rfl rfl rfl (QW.pick_and (.tmp rfl) (.tmp rfl)) ?_
  refine JL.q rfl rfl rfl (QW.assign (.tmp rfl)) ?_
  refine JL.nil ?_
  refine thenQ.n ?_
  refine J.ret ?_
  exact ⟨_, selP [.k] _, _, RetEv.one rfl (REv.tmp rfl (.refl _)), rfl, sel_perm [.k] _, ⟨rfl, rfl⟩⟩
end Go.Proofs.YtjhonjdhanlbkaaGreat.J

/- EvalMay. -/
namespace Go.Proofs.YtjhonjdhanlbkaaGreat.J
open Go Go.RowKit
set_option maxRecDepth 10000
set_option maxHeartbeats 4000000
theorem evalT_wf {e : EX} {s : ScT} (hew : e.wf) (hw : s.st.wf ∧ s.ev.wf ∧ s.it.wf) (f : Int) : (evalT e s f).1.wf ∧ ((evalT e s f).2.2 ≠ 0 → evalT e s f = (.nil, 0, (evalT e s f).2.2)) ∧ ((evalT e s f).2.2 = 0 → (evalT e s f).1.err = 0 ∧ 0 ≤ (evalT e s f).2.1 ∧ (evalT e s f).2.1 < f) := by
  rcases evalT_cases e s f with ⟨c, hc, h⟩ | ⟨v, f', h1, h, h2, h3, h4, h5⟩
  · rw [h]; exact ⟨V.wf_nil, fun _ => rfl, fun h => absurd h hc⟩
  · obtain ⟨a1, a2, a3⟩ := EX.ev_good e s f (EX.fine_of h2) hew (ScT.good_of hw h3) v f' h1
    rw [h]
    exact ⟨a1.wf, fun h => absurd rfl h, fun _ => ⟨a1.err, a3, by show f' < f; omega⟩⟩
end Go.Proofs.YtjhonjdhanlbkaaGreat.J

/- Lists that are pushed onto, filtered, searched: plain. -/
namespace Go.Proofs.YtjhonjdhanlbkaaGreat.J
open Go Go.RowKit
def scL (l x : V) : ScT := ⟨l, x, .nil⟩
def lisE (o : Int) (k : Int) : EX := .mk o 0 [] [.mk 5 0 [] [], .mk k 0 [] []]
theorem tr2 {s : ScT} {f : Int} (h : ¬ f < 1) : truE ((EX.mk 2 0 [] []).ev s f) = .ok (true, f - 1) := by rw [ev_2 h]; rfl
theorem fil_all (s : ScT) : ∀ (l : List V) (f : Int), (l.length : Int) ≤ f → filE (fun it f => truE (ovG (.mk 2 0 [] []) s it f)) l f = .ok (l, f - l.length)
  | [], f, h => by rw [filE]; simp
  | x :: r, f, h => by
    rw [List.length_cons] at h
    rw [filE]
    have h1 : truE (ovG (.mk 2 0 [] []) s x f) = .ok (true, f - 1) := tr2 (by omega)
    rw [h1]
    simp only []
    rw [fil_all s r (f - 1) (by omega)]
    simp only [if_true, List.length_cons]
    congr 2; omega
theorem li_eq {l : V} (h : l.good) (hk : l.kind = 4) : l = .li l.items := by
  obtain ⟨k, b, t, ks, is⟩ := l
  have hp := h.fine.part
  simp only [V.kind] at hk
  subst hk
  simp [partOk] at hp
  obtain ⟨⟨⟨h1, h2⟩, h3⟩, h4⟩ := hp
  subst h1 h2 h3; rfl
theorem ev_fil {l x : V} (h : l.good) (hk : l.kind = 4) : (lisE 28 2).ev (scL l x) 99 = .ok (l, 97 - l.items.length) := by
  have hl := h.len
  unfold lisE
  rw [ev_over (by decide) (by decide), ev_ov]
  rw [ev_5 (by decide)]
  show overE 28 (ovG (.mk 2 0 [] []) (scL l x)) (.ok (l, 97)) = _
  unfold overE
  simp only [hk]
  show madeF (filE (fun it f => truE (ovG (.mk 2 0 [] []) (scL l x) it f)) l.items 97) = _
  rw [fil_all _ _ _ (by omega), madeF_yes (by rw [← li_eq h hk]; exact h.err), ← li_eq h hk]
theorem ev_fnd {l x : V} (h : l.good) (hk : l.kind = 4) : (lisE 29 2).ev (scL l x) 99 = match l.items with | [] => .error 71 | y :: _ => .ok (y, 96) := by
  unfold lisE
  rw [ev_over (by decide) (by decide), ev_ov]
  rw [ev_5 (by decide)]
  show overE 29 (ovG (.mk 2 0 [] []) (scL l x)) (.ok (l, 97)) = _
  unfold overE
  simp only [hk]
  show fndE (fun it f => truE (ovG (.mk 2 0 [] []) (scL l x) it f)) l.items 97 = _
  cases hi : l.items with
  | nil => rfl
  | cons y r =>
    rw [fndE]
    have h1 : truE (ovG (.mk 2 0 [] []) (scL l x) y 97) = .ok (true, 96) := tr2 (by decide)
    rw [h1]; rfl
theorem ev_bad {o k : Int} (ho : o = 28 ∨ o = 29) {l x : V} (hk : ¬ l.kind = 4) : (lisE o k).ev (scL l x) 99 = .error 81 := by
  unfold lisE
  rw [ev_over (by omega) (by decide), ev_ov]
  rw [ev_5 (by decide)]
  exact if_pos hk
theorem ev_push {l x : V} : (lisE 24 6).ev (scL l x) 99 = match plainE 24 [] [l, x] with | .error e => .error e | .ok v => .ok (v, 96) := by
  unfold lisE
  rw [ev_pl (by decide) (by decide)]
  have h : EX.evs [EX.mk 5 0 [] [], EX.mk 6 0 [] []] (scL l x) (99 - 1) = .ok ([l, x], 96) := by
    rw [EX.evs, ev_5 (by decide)]
    simp only []
    rw [EX.evs, ev_6 (by decide)]
    simp only []
    rw [EX.evs]; rfl
  rw [h]; rfl
end Go.Proofs.YtjhonjdhanlbkaaGreat.J

/- EvalLists, plain. -/
namespace Go.Proofs.YtjhonjdhanlbkaaGreat.J
open Go Go.RowKit
theorem push_val {l x v : V} (h : l.good) (hk : l.kind = 4) (hg : setE l ⟨false, [], l.items.length⟩ x = .ok v) : v = .li (l.items ++ [x]) := by
  have h0 : (l.setv [⟨false, [], l.items.length⟩] x).2 = 0 := Decidable.byContradiction fun h' => by rw [setE, if_neg h'] at hg; cases hg
  rw [setE, if_pos h0] at hg
  cases hg
  obtain ⟨h1, h2, h3, h4⟩ := V.setv_inv (w := (l.setv [⟨false, [], l.items.length⟩] x).1) (Prod.ext rfl h0)
  have hf : l.fnd ⟨false, [], l.items.length⟩ = (0, 82) := by unfold V.fnd; simp [hk]
  have hs : l.set [⟨false, [], l.items.length⟩] x = l.put ⟨false, [], l.items.length⟩ x := rfl
  rw [hs, V.put, hf] at h3
  simp only [] at h3
  rw [if_neg (by decide)] at h3
  have hgw : l.grw ⟨false, [], l.items.length⟩ 0 82 = (if 32 ≤ l.items.length then (0, 3) else (l.items.length, 0)) := by
    unfold V.grw; rw [if_neg (by simp), if_pos ⟨rfl, rfl⟩]
  rw [hgw] at h3
  by_cases h32 : 32 ≤ l.items.length
  · rw [if_pos h32] at h3; simp at h3
  · rw [if_neg h32] at h3
    simp only [if_true] at h3
    rw [← (Prod.mk.inj h3).1]
    have hl := li_eq h hk
    rw [hl]; simp [V.ins, V.li, V.kind, V.bits, V.text, V.keys, V.items]
theorem lisE_err {o k : Int} (h : (o = 24 ∧ k = 6) ∨ ((o = 28 ∨ o = 29) ∧ k = 2)) : (lisE o k).err = 0 := by
  rcases h with ⟨rfl, rfl⟩ | ⟨rfl | rfl, rfl⟩ <;> decide
theorem lisE_wf {o k : Int} (ho : 0 ≤ o ∧ o ≤ 100) (hk : 0 ≤ k ∧ k ≤ 100) : (lisE o k).wf := .mk (by omega) (by decide) (by decide) (by show 2 * 56 ≤ reach; decide) (fun x h => by
  simp at h
  rcases h with rfl | rfl
  · exact .mk (by decide) (by decide) (by decide) (by decide) (fun _ h => by cases h)
  · exact .mk (by omega) (by decide) (by decide) (by decide) (fun _ h => by cases h))
theorem scL_t {e : EX} {l x : V} (he : e.err = 0) (hl : l.err = 0) (hx : x.err = 0) : evalT e (scL l x) 99 = runT e (scL l x) 99 := evalT_r he ⟨hl, hx, (by decide : V.nil.err = 0)⟩ (by decide)
theorem scL_bad {e : EX} {l x : V} (he : e.err = 0) (h : l.err ≠ 0 ∨ x.err ≠ 0) : (evalT e (scL l x) 99).2.2 ≠ 0 := by
  unfold evalT
  rw [if_neg (by simp [he])]
  by_cases hl : l.err = 0
  · rw [if_neg (by simp [scL, hl]), if_pos (by rcases h with h | h; exact absurd hl h; exact h)]
    rcases h with h | h
    · exact absurd hl h
    · exact h
  · rw [show (scL l x).st = l from rfl, if_pos hl]; exact hl
theorem lists_bad {l x : V} (h : l.err ≠ 0 ∨ x.err ≠ 0 ∨ l.kind ≠ 4) : (evalT (lisE 24 6) (scL l x) 99).2.2 ≠ 0 ∧ (evalT (lisE 28 2) (scL l x) 99).2.2 ≠ 0 ∧ (evalT (lisE 29 2) (scL l x) 99).2.2 ≠ 0 := by
  have e1 := lisE_err (o := 24) (k := 6) (by decide)
  have e2 := lisE_err (o := 28) (k := 2) (by decide)
  have e3 := lisE_err (o := 29) (k := 2) (by decide)
  by_cases hb : l.err ≠ 0 ∨ x.err ≠ 0
  · exact ⟨scL_bad e1 hb, scL_bad e2 hb, scL_bad e3 hb⟩
  · have hl : l.err = 0 := Decidable.byContradiction fun h => hb (.inl h)
    have hx : x.err = 0 := Decidable.byContradiction fun h => hb (.inr h)
    have hk : ¬ l.kind = 4 := by rcases h with h | h | h; exact absurd hl h; exact absurd hx h; exact h
    rw [scL_t e1 hl hx, scL_t e2 hl hx, scL_t e3 hl hx, runT_er (ev_bad (o := 28) (k := 2) (by decide) hk), runT_er (ev_bad (o := 29) (k := 2) (by decide) hk), runT_er (c := 81) (by rw [ev_push, pe24, if_pos hk])]
    exact ⟨by decide, by decide, by decide⟩
theorem lists_good {l x : V} (hlw : l.wf) (hxw : x.wf) (hl : l.err = 0) (hx : x.err = 0) (hk : l.kind = 4) :
    ((evalT (lisE 28 2) (scL l x) 99).1 = l ∧ (evalT (lisE 28 2) (scL l x) 99).2.2 = 0) ∧
    (((evalT (lisE 29 2) (scL l x) 99).2.2 = 0 ↔ 0 < l.items.length) ∧ ∀ h : 0 < l.items.length, (evalT (lisE 29 2) (scL l x) 99).1 = l.items[0]) ∧
    ((evalT (lisE 24 6) (scL l x) 99).2.2 = 84 ∨ ((evalT (lisE 24 6) (scL l x) 99).2.2 = 0 ∧ (evalT (lisE 24 6) (scL l x) 99).1 = .li (l.items ++ [x]))) := by
  have hg : l.good := ⟨hlw, hl⟩
  have e1 := lisE_err (o := 24) (k := 6) (by decide)
  have e2 := lisE_err (o := 28) (k := 2) (by decide)
  have e3 := lisE_err (o := 29) (k := 2) (by decide)
  rw [scL_t e1 hl hx, scL_t e2 hl hx, scL_t e3 hl hx, runT_ok (ev_fil hg hk)]
  refine ⟨⟨rfl, rfl⟩, ?_, ?_⟩
  · cases hi : l.items with
    | nil =>
      rw [runT_er (c := 71) (by rw [ev_fnd hg hk, hi])]
      exact ⟨⟨(fun h => by cases h), (fun h => by simp at h)⟩, (fun h => by simp at h)⟩
    | cons y r =>
      rw [runT_ok (v := y) (f' := 96) (by rw [ev_fnd hg hk, hi])]
      exact ⟨⟨fun _ => by simp, fun _ => rfl⟩, fun _ => rfl⟩
  · cases hs : setE l ⟨false, [], l.items.length⟩ x with
    | error c =>
      have hc : c = 84 := by
        unfold setE at hs
        split at hs
        · cases hs
        · cases hs; rfl
      subst hc
      exact .inl (by rw [runT_er (c := 84) (by rw [ev_push, pe24, if_neg (by simp [hk]), hs])])
    | ok v =>
      have hv := push_val hg hk hs
      subst hv
      rw [runT_ok (v := .li (l.items ++ [x])) (f' := 96) (by rw [ev_push, pe24, if_neg (by simp [hk]), hs])]
      exact .inr ⟨rfl, rfl⟩
end Go.Proofs.YtjhonjdhanlbkaaGreat.J

/- EvalLists. -/
namespace Go.Proofs.YtjhonjdhanlbkaaGreat.J
open Go Go.RowKit
set_option maxRecDepth 10000
set_option maxHeartbeats 4000000
theorem lisE_le {F : List (Value × AV)} (o k : Int) : Le F (.agg [.c (.int .i64 o), .c (.int .u64 0), .c (str []), .sl true true et34 [(EX.mk 5 0 [] []).raw (.slice none 0 0), (EX.mk k 0 [] []).raw (.slice none 0 0)]]) (.agg ((lisE o k).cs true)) :=
  .aggL (.cons (.refl _) (.cons (.refl _) (.cons (.refl _) (.cons (.slL (fun h => h) rfl (EX.css_sz true [.mk 5 0 [] [], .mk k 0 [] []]) (.cons (.refl _) (.cons (.refl _) (.cons (.refl _) (.cons (.nil true false _) (.cons (.refl _) (.cons (.refl _) (.cons (.refl _) (.cons (.nil true false _) .nil))))))))) .nil))))
theorem lisE_le2 {F : List (Value × AV)} {e : EX} {o k : Int} (h : e = lisE o k) : Le F (.agg [.c (.int .i64 o), .c (.int .u64 0), .c (str []), .sl true true et34 [(EX.mk 5 0 [] []).raw (.slice none 0 0), (EX.mk k 0 [] []).raw (.slice none 0 0)]]) (.agg (e.cs true)) := by
  subst h; exact lisE_le o k
theorem evalR {fr : Bool} {e : EX} {ys : List AV} (he : Xc fr e ys) (hew : e.wf) {s : ScT} (hw : s.st.wf ∧ s.ev.wf ∧ s.it.wf) {f : Int} (h64 : -9223372036854775808 ≤ f ∧ f ≤ 9223372036854775807) {r : V × Int × Int} (h : evalT e s f = r) : Fn Tryz.prog 11 [.agg ys, .agg s.cs, .c (.int .i64 f)] (runAV r) := by
  subst h; exact eval_ok he hew hw h64
theorem css_getD {l : List V} (h : 0 < l.length) : (V.css false l)[0]? = some ((l.getD 0 .nil).cs false) := by
  cases l with
  | nil => simp at h
  | cons y r => rfl
theorem getD_mem {l : List V} (h : 0 < l.length) : l.getD 0 .nil ∈ l := by
  cases l with
  | nil => simp at h
  | cons y r => simp
theorem getD_eq {l : List V} (h : 0 < l.length) : l.getD 0 .nil = l[0] := by
  cases l with
  | nil => simp at h
  | cons y r => rfl
theorem css_last (l : List V) (x : V) : (V.css true (l ++ [x]))[l.length]? = some (x.cs true) := by
  induction l with
  | nil => rfl
  | cons y r ih => rw [List.cons_append, V.css, List.length_cons, List.getElem?_cons_succ]; exact ih
theorem css_takeL (l : List V) (x : V) : (V.css true (l ++ [x])).take l.length = V.css true l := by
  induction l with
  | nil => rfl
  | cons y r ih => rw [List.cons_append, V.css, V.css, List.length_cons, List.take_succ_cons, ih]
theorem evalLists_ok {l x : V} (hlw : l.wf) (hxw : x.wf) : Fn Tryz.prog 7 [.agg (l.cs false), .agg (x.cs false)] (.c (.bool true)) := by
  obtain ⟨lk, lb, lt, lks, lis⟩ := l
  obtain ⟨xk, xb, xt, xks, xis⟩ := x
  have hsw : (scL (.mk lk lb lt lks lis) (.mk xk xb xt xks xis)).st.wf ∧ (scL (.mk lk lb lt lks lis) (.mk xk xb xt xks xis)).ev.wf ∧ (scL (.mk lk lb lt lks lis) (.mk xk xb xt xks xis)).it.wf := ⟨hlw, hxw, V.wf_nil⟩
  have hbad := fun h => lists_bad (l := (.mk lk lb lt lks lis)) (x := (.mk xk xb xt xks xis)) h
  have hgood := fun h1 h2 h3 => lists_good (l := (.mk lk lb lt lks lis)) (x := (.mk xk xb xt xks xis)) hlw hxw h1 h2 h3
  obtain ⟨x1, X1⟩ : ∃ e, e = lisE 24 6 := ⟨_, rfl⟩
  have w1 : x1.wf := X1 ▸ lisE_wf (by omega) (by omega)
  rw [← X1] at hbad hgood
  have wv1 := (evalT_wf (e := x1) w1 hsw 99).1
  obtain ⟨⟨v1, n1, c1_⟩, E1⟩ : ∃ p, evalT x1 (scL (.mk lk lb lt lks lis) (.mk xk xb xt xks xis)) 99 = p := ⟨_, rfl⟩
  rw [E1] at hbad hgood wv1
  obtain ⟨x2, X2⟩ : ∃ e, e = lisE 28 2 := ⟨_, rfl⟩
  have w2 : x2.wf := X2 ▸ lisE_wf (by omega) (by omega)
  rw [← X2] at hbad hgood
  have wv2 := (evalT_wf (e := x2) w2 hsw 99).1
  obtain ⟨⟨v2, n2, c2_⟩, E2⟩ : ∃ p, evalT x2 (scL (.mk lk lb lt lks lis) (.mk xk xb xt xks xis)) 99 = p := ⟨_, rfl⟩
  rw [E2] at hbad hgood wv2
  obtain ⟨x3, X3⟩ : ∃ e, e = lisE 29 2 := ⟨_, rfl⟩
  have w3 : x3.wf := X3 ▸ lisE_wf (by omega) (by omega)
  rw [← X3] at hbad hgood
  have wv3 := (evalT_wf (e := x3) w3 hsw 99).1
  obtain ⟨⟨v3, n3, c3_⟩, E3⟩ : ∃ p, evalT x3 (scL (.mk lk lb lt lks lis) (.mk xk xb xt xks xis)) 99 = p := ⟨_, rfl⟩
  rw [E3] at hbad hgood wv3
  obtain ⟨-, -, -, -, hi80, -, hwi⟩ := hlw.inv
  have hi64 : lis.length ≤ 9223372036854775805 := by unfold reach at hi80; omega
  refine AC.of_J Tryz.func7 rfl Tryz.ntmps7 rfl fun w0 A0 => ?_
  refine J.seq ?_
  refine J.region_lit ?_
  refine JL.box_agg (.tmp rfl) rfl fun b2 => ?_
  refine JL.box_agg (.tmp rfl) rfl fun b3 => ?_
  refine JL.q rfl rfl rfl (QW.assign .const) ?_
  refine JL.nil ?_
  refine thenQ.n ?_
  refine J.seq ?_
  refine J.seq ?_
  refine J.region_lit ?_
  refine JL.q rfl rfl rfl (QW.call gofn17 .nil (alive15_ok)) ?_
  refine JL.q rfl rfl rfl (QW.not (.tmp rfl)) ?_
  refine JL.nil ?_
  refine thenQ.n ?_
  refine J.cond (.tmp rfl) (fun c1 => ?_) (fun c1 => ?_)
  · skip
    exact absurd c1 (by simp)
    --closed
  skip
  refine J.skip ?_
  refine thenQ.n ?_
  refine J.seq ?_
  refine J.region_lit ?_
  refine JL.q rfl rfl rfl (by first | exact QW.load_box 1 ty29 (.tmp rfl) rfl rfl rfl | exact QW.load_box 1 ty29 (.tmp rfl) rfl (take_at (V.cs_length _ _) rfl) (V.cs_length _ _)) ?_
  refine JL.q rfl rfl rfl (by first | exact QW.load_box 0 ty29 (.tmp rfl) rfl rfl rfl | exact QW.load_box 0 ty29 (.tmp rfl) rfl (take_at (V.cs_length _ _) rfl) (V.cs_length _ _)) ?_
  refine JL.q rfl rfl rfl (QW.build (idx := [0, 1]) pl31 z31 rfl (.cons (.tmp rfl) (.cons (.tmp rfl) .nil)) rfl rfl rfl rfl) ?_
  refine JL.alloc z31 rfl rfl fun b5 => ?_
  first | refine JL.store_boxF 0 ty31 (.tmp rfl) rfl (.tmp rfl) (by first | rfl | assumption) (by rfl) (by rfl) rfl ?_ | refine JL.store_box 0 ty31 (.tmp rfl) rfl (.tmp rfl) (by first | rfl | assumption) (by rfl) rfl rfl rfl ?_
  refine JL.nil ?_
  refine thenQ.n ?_
  refine J.seq ?_
  refine J.region_lit ?_
  refine JL.q rfl rfl rfl (QW.build (idx := [0]) pl25 z25 rfl (.cons .const .nil) rfl rfl rfl rfl) ?_
  refine JL.q rfl rfl rfl (QW.build (idx := [0]) pl25 z25 rfl (.cons .const .nil) rfl rfl rfl rfl) ?_
  refine JL.q rfl rfl rfl (QW.buildSlice (idx := [0, 1]) (xs := [(EX.mk 5 0 [] []).raw (.slice none 0 0), (EX.mk 6 0 [] []).raw (.slice none 0 0)]) sl23 el25 z25 rfl (.cons (.tmp rfl) (.cons (.tmp rfl) .nil)) rfl rfl rfl rfl rfl rfl rfl rfl rfl) ?_
  refine JL.q rfl rfl rfl (QW.build (idx := [0, 3]) pl25 z25 rfl (.cons .const (.cons (.tmp rfl) .nil)) rfl rfl rfl rfl) ?_
  refine JL.alloc z25 rfl rfl fun b6 => ?_
  first | refine JL.store_boxF 0 ty25 (.tmp rfl) rfl (.tmp rfl) (by first | rfl | assumption) (by first | rfl | exact EX.cs_length _ _) (by first | rfl | exact EX.cs_length _ _) rfl ?_ | refine JL.store_box 0 ty25 (.tmp rfl) rfl (.tmp rfl) (by first | rfl | assumption) (by first | rfl | exact EX.cs_length _ _) rfl rfl rfl ?_
  refine JL.nil ?_
  refine thenQ.n ?_
  refine J.seq ?_
  refine J.region_lit ?_
  refine JL.q rfl rfl rfl (QW.build (idx := [0]) pl25 z25 rfl (.cons .const .nil) rfl rfl rfl rfl) ?_
  refine JL.q rfl rfl rfl (QW.build (idx := [0]) pl25 z25 rfl (.cons .const .nil) rfl rfl rfl rfl) ?_
  refine JL.q rfl rfl rfl (QW.buildSlice (idx := [0, 1]) (xs := [(EX.mk 5 0 [] []).raw (.slice none 0 0), (EX.mk 2 0 [] []).raw (.slice none 0 0)]) sl23 el25 z25 rfl (.cons (.tmp rfl) (.cons (.tmp rfl) .nil)) rfl rfl rfl rfl rfl rfl rfl rfl rfl) ?_
  refine JL.q rfl rfl rfl (QW.build (idx := [0, 3]) pl25 z25 rfl (.cons .const (.cons (.tmp rfl) .nil)) rfl rfl rfl rfl) ?_
  refine JL.alloc z25 rfl rfl fun b7 => ?_
  first | refine JL.store_boxF 0 ty25 (.tmp rfl) rfl (.tmp rfl) (by first | rfl | assumption) (by first | rfl | exact EX.cs_length _ _) (by first | rfl | exact EX.cs_length _ _) rfl ?_ | refine JL.store_box 0 ty25 (.tmp rfl) rfl (.tmp rfl) (by first | rfl | assumption) (by first | rfl | exact EX.cs_length _ _) rfl rfl rfl ?_
  refine JL.nil ?_
  refine thenQ.n ?_
  refine J.seq ?_
  refine J.region_lit ?_
  refine JL.q rfl rfl rfl (QW.build (idx := [0]) pl25 z25 rfl (.cons .const .nil) rfl rfl rfl rfl) ?_
  refine JL.q rfl rfl rfl (QW.build (idx := [0]) pl25 z25 rfl (.cons .const .nil) rfl rfl rfl rfl) ?_
  refine JL.q rfl rfl rfl (QW.buildSlice (idx := [0, 1]) (xs := [(EX.mk 5 0 [] []).raw (.slice none 0 0), (EX.mk 2 0 [] []).raw (.slice none 0 0)]) sl23 el25 z25 rfl (.cons (.tmp rfl) (.cons (.tmp rfl) .nil)) rfl rfl rfl rfl rfl rfl rfl rfl rfl) ?_
  refine JL.q rfl rfl rfl (QW.build (idx := [0, 3]) pl25 z25 rfl (.cons .const (.cons (.tmp rfl) .nil)) rfl rfl rfl rfl) ?_
  refine JL.alloc z25 rfl rfl fun b8 => ?_
  first | refine JL.store_boxF 0 ty25 (.tmp rfl) rfl (.tmp rfl) (by first | rfl | assumption) (by first | rfl | exact EX.cs_length _ _) (by first | rfl | exact EX.cs_length _ _) rfl ?_ | refine JL.store_box 0 ty25 (.tmp rfl) rfl (.tmp rfl) (by first | rfl | assumption) (by first | rfl | exact EX.cs_length _ _) rfl rfl rfl ?_
  refine JL.nil ?_
  refine thenQ.n ?_
  refine J.seq ?_
  refine J.regionX mixed ?_
  refine JX.o 0 2 [] rfl rfl rfl rfl rfl rfl rfl rfl rfl (fun ow_ ho_ => (.q rfl (by first | exact QW.load_box 2 ty25 (.tmp rfl) ho_ rfl rfl | exact QW.load_box 2 ty25 (.tmp rfl) ho_ (take_at (EX.cs_length _ _) rfl) (EX.cs_length _ _)))) ?_
  refine JX.f 1 [37] rfl rfl rfl rfl rfl rfl rfl rfl (fun ow_ => (.q rfl (QW.call gofn9 (.cons (Ev.le (.tmp rfl) (lisE_le2 X1)) .nil) (of14_ok (fr := true) (v := x1) Xc.self w1)))) ?_
  refine JX.o 2 3 [] rfl rfl rfl rfl rfl rfl rfl rfl rfl (fun ow_ ho_ => (.q rfl (QW.load_box 3 ty31 (.tmp rfl) ho_ rfl rfl))) ?_
  refine JX.f 3 [39] rfl rfl rfl rfl rfl rfl rfl rfl (fun ow_ => (.q rfl (QW.call gofn10 (.cons (Ev.le (.tmp rfl) (.aggL (.cons (.refl _) (.cons (.refl _) (.cons (.refl _) (.cons (.refl _) (.cons (.refl _) (.cons (.refl _) (.cons (.refl _) (.cons (.refl _) (.cons (.refl _) (.cons (.refl _) (.cons (.refl _) (.cons (.refl _) (.cons (.refl _) (.cons (.nil false false _) (.cons (.nil false false _) .nil))))))))))))))))) .nil) (of15_ok (s := (scL (.mk lk lb lt lks lis) (.mk xk xb xt xks xis))) hsw)))) ?_
  refine JX.f 4 [38, 40] rfl rfl rfl rfl rfl rfl rfl rfl (fun ow_ => (.q rfl (QW.call gofn11 (.cons (.tmp rfl) (.cons (.tmp rfl) (.cons .const .nil))) (evalR (fr := true) (e := x1) Xc.self w1 (s := (scL (.mk lk lb lt lks lis) (.mk xk xb xt xks xis))) hsw (f := 99) (by decide) E1)))) ?_
  refine JX.f 5 [41] rfl rfl rfl rfl rfl rfl rfl rfl (fun ow_ => (.q rfl (QW.move (.tmp rfl)))) ?_
  refine JX.f 6 [36] rfl rfl rfl rfl rfl rfl rfl rfl (fun ow_ => (.q rfl (QW.extract (.tmp rfl) rfl))) ?_
  refine JX.f 7 [36] rfl rfl rfl rfl rfl rfl rfl rfl (fun ow_ => (.q rfl (QW.extract (.tmp rfl) rfl))) ?_
  refine JX.f 8 [36] rfl rfl rfl rfl rfl rfl rfl rfl (fun ow_ => (.q rfl (QW.extract (.tmp rfl) rfl))) ?_
  refine JX.a 9 rfl (AllocOp.mk z29 rfl) rfl rfl rfl rfl rfl ?_
  refine JX.one 10 [true, false, false, true, true, true, true, true, true, true] rfl (by kernel_rfl) (by kernel_rfl) rfl rfl (by kernel_rfl) rfl fun bs10_ pe_ ex_ => ?_
  refine JL.conv (by (try simp only [vlF, bxF, tkM, lvM, Flt.val, Flt.bx, List.append_assoc, List.take_succ_cons, List.take_zero, List.append_eq, id_eq, stepsO, List.map_cons, List.map_nil, valO, nthO, curO, mrg, List.reverse_cons, List.reverse_nil, List.nil_append, List.cons_append, List.append_nil, List.getElem?_cons_zero, List.getElem?_cons_succ, Option.map_some, Option.getD_some, List.set_cons_zero, List.set_cons_succ, AV.cellsOf, splice_zero, splice_succ, Nat.zero_add, Nat.reduceAdd]); rfl) ?_
  first | refine JL.store_boxF 6 ty29 (.tmp rfl) rfl (.tmp rfl) (by first | rfl | assumption) (by first | rfl | exact V.cs_length _ _) (by first | rfl | exact V.cs_length _ _) rfl ?_ | refine JL.store_box 6 ty29 (.tmp rfl) rfl (.tmp rfl) (by first | rfl | assumption) (by first | rfl | exact V.cs_length _ _) rfl rfl rfl ?_
  refine JL.nil ?_
  refine thenQ.n ⟨[], _, rfl, rfl, rfl, rfl, rfl, Reown.tkN 7 rfl, trivial, ⟨trivial, ⟨trivial, trivial⟩⟩, ?_⟩
  refine JX.conv (S' := [10, 9, 6, 5, 4, 3, 2, 1, 0]) rfl (by (try simp only [lvM]); rfl) (by (try simp only [vlF, bxF, tkM, lvM, Flt.val, Flt.bx, List.append_assoc, List.take_succ_cons, List.take_zero, List.append_eq, id_eq, stepsO, List.map_cons, List.map_nil, valO, nthO, curO, mrg, List.reverse_cons, List.reverse_nil, List.nil_append, List.cons_append, List.append_nil, List.getElem?_cons_zero, List.getElem?_cons_succ, Option.map_some, Option.getD_some, List.set_cons_zero, List.set_cons_succ, AV.cellsOf, splice_zero, splice_succ, Nat.zero_add, Nat.reduceAdd]); rfl) ?_
  refine JX.f 11 [43] rfl rfl rfl rfl rfl rfl rfl rfl (fun ow_ => (.q rfl (QW.assign (.tmp rfl)))) ?_
  refine JX.f 12 [44] rfl rfl rfl rfl rfl rfl rfl rfl (fun ow_ => (.q rfl (QW.assign (.tmp rfl)))) ?_
  refine JX.fin (by kernel_rfl) (by kernel_rfl) fun bs_ => ?_
  refine QX.conv (by (try simp only [vlF, bxF, tkM, lvM, Flt.val, Flt.bx, List.append_assoc, List.take_succ_cons, List.take_zero, List.append_eq, id_eq, stepsO, List.map_cons, List.map_nil, valO, nthO, curO, mrg, List.reverse_cons, List.reverse_nil, List.nil_append, List.cons_append, List.append_nil, List.getElem?_cons_zero, List.getElem?_cons_succ, Option.map_some, Option.getD_some, List.set_cons_zero, List.set_cons_succ, AV.cellsOf, splice_zero, splice_succ, Nat.zero_add, Nat.reduceAdd]); rfl) ?_
  refine thenQ.n ?_
  refine J.seq ?_
  refine J.regionX mixed ?_
  refine JX.o 0 1 [] rfl rfl rfl rfl rfl rfl rfl rfl rfl (fun ow_ ho_ => (.q rfl (by first | exact QW.load_box 1 ty25 (.tmp rfl) ho_ rfl rfl | exact QW.load_box 1 ty25 (.tmp rfl) ho_ (take_at (EX.cs_length _ _) rfl) (EX.cs_length _ _)))) ?_
  refine JX.f 1 [46] rfl rfl rfl rfl rfl rfl rfl rfl (fun ow_ => (.q rfl (QW.call gofn9 (.cons (Ev.le (.tmp rfl) (lisE_le2 X2)) .nil) (of14_ok (fr := true) (v := x2) Xc.self w2)))) ?_
  refine JX.o 2 3 [] rfl rfl rfl rfl rfl rfl rfl rfl rfl (fun ow_ ho_ => (.q rfl (QW.load_box 3 ty31 (.tmp rfl) ho_ rfl rfl))) ?_
  refine JX.f 3 [48] rfl rfl rfl rfl rfl rfl rfl rfl (fun ow_ => (.q rfl (QW.call gofn10 (.cons (Ev.le (.tmp rfl) (.aggL (.cons (.refl _) (.cons (.refl _) (.cons (.refl _) (.cons (.refl _) (.cons (.refl _) (.cons (.refl _) (.cons (.refl _) (.cons (.refl _) (.cons (.refl _) (.cons (.refl _) (.cons (.refl _) (.cons (.refl _) (.cons (.refl _) (.cons (.nil false false _) (.cons (.nil false false _) .nil))))))))))))))))) .nil) (of15_ok (s := (scL (.mk lk lb lt lks lis) (.mk xk xb xt xks xis))) hsw)))) ?_
  refine JX.f 4 [47, 49] rfl rfl rfl rfl rfl rfl rfl rfl (fun ow_ => (.q rfl (QW.call gofn11 (.cons (.tmp rfl) (.cons (.tmp rfl) (.cons .const .nil))) (evalR (fr := true) (e := x2) Xc.self w2 (s := (scL (.mk lk lb lt lks lis) (.mk xk xb xt xks xis))) hsw (f := 99) (by decide) E2)))) ?_
  refine JX.f 5 [50] rfl rfl rfl rfl rfl rfl rfl rfl (fun ow_ => (.q rfl (QW.move (.tmp rfl)))) ?_
  refine JX.f 6 [45] rfl rfl rfl rfl rfl rfl rfl rfl (fun ow_ => (.q rfl (QW.extract (.tmp rfl) rfl))) ?_
  refine JX.f 7 [45] rfl rfl rfl rfl rfl rfl rfl rfl (fun ow_ => (.q rfl (QW.extract (.tmp rfl) rfl))) ?_
  refine JX.f 8 [45] rfl rfl rfl rfl rfl rfl rfl rfl (fun ow_ => (.q rfl (QW.extract (.tmp rfl) rfl))) ?_
  refine JX.a 9 rfl (AllocOp.mk z29 rfl) rfl rfl rfl rfl rfl ?_
  refine JX.one 10 [true, false, false, true, true, true, true, true, true, true] rfl (by kernel_rfl) (by kernel_rfl) rfl rfl (by kernel_rfl) rfl fun bs10_ pe_ ex_ => ?_
  refine JL.conv (by (try simp only [vlF, bxF, tkM, lvM, Flt.val, Flt.bx, List.append_assoc, List.take_succ_cons, List.take_zero, List.append_eq, id_eq, stepsO, List.map_cons, List.map_nil, valO, nthO, curO, mrg, List.reverse_cons, List.reverse_nil, List.nil_append, List.cons_append, List.append_nil, List.getElem?_cons_zero, List.getElem?_cons_succ, Option.map_some, Option.getD_some, List.set_cons_zero, List.set_cons_succ, AV.cellsOf, splice_zero, splice_succ, Nat.zero_add, Nat.reduceAdd]); rfl) ?_
  first | refine JL.store_boxF 7 ty29 (.tmp rfl) rfl (.tmp rfl) (by first | rfl | assumption) (by first | rfl | exact V.cs_length _ _) (by first | rfl | exact V.cs_length _ _) rfl ?_ | refine JL.store_box 7 ty29 (.tmp rfl) rfl (.tmp rfl) (by first | rfl | assumption) (by first | rfl | exact V.cs_length _ _) rfl rfl rfl ?_
  refine JL.nil ?_
  refine thenQ.n ⟨[], _, rfl, rfl, rfl, rfl, rfl, Reown.tkN 8 rfl, trivial, ⟨trivial, ⟨trivial, trivial⟩⟩, ?_⟩
  refine JX.conv (S' := [10, 9, 6, 5, 4, 3, 2, 1, 0]) rfl (by (try simp only [lvM]); rfl) (by (try simp only [vlF, bxF, tkM, lvM, Flt.val, Flt.bx, List.append_assoc, List.take_succ_cons, List.take_zero, List.append_eq, id_eq, stepsO, List.map_cons, List.map_nil, valO, nthO, curO, mrg, List.reverse_cons, List.reverse_nil, List.nil_append, List.cons_append, List.append_nil, List.getElem?_cons_zero, List.getElem?_cons_succ, Option.map_some, Option.getD_some, List.set_cons_zero, List.set_cons_succ, AV.cellsOf, splice_zero, splice_succ, Nat.zero_add, Nat.reduceAdd]); rfl) ?_
  refine JX.f 11 [52] rfl rfl rfl rfl rfl rfl rfl rfl (fun ow_ => (.q rfl (QW.assign (.tmp rfl)))) ?_
  refine JX.f 12 [53] rfl rfl rfl rfl rfl rfl rfl rfl (fun ow_ => (.q rfl (QW.assign (.tmp rfl)))) ?_
  refine JX.fin (by kernel_rfl) (by kernel_rfl) fun bs_ => ?_
  refine QX.conv (by (try simp only [vlF, bxF, tkM, lvM, Flt.val, Flt.bx, List.append_assoc, List.take_succ_cons, List.take_zero, List.append_eq, id_eq, stepsO, List.map_cons, List.map_nil, valO, nthO, curO, mrg, List.reverse_cons, List.reverse_nil, List.nil_append, List.cons_append, List.append_nil, List.getElem?_cons_zero, List.getElem?_cons_succ, Option.map_some, Option.getD_some, List.set_cons_zero, List.set_cons_succ, AV.cellsOf, splice_zero, splice_succ, Nat.zero_add, Nat.reduceAdd]); rfl) ?_
  refine thenQ.n ?_
  refine J.seq ?_
  refine J.regionX mixed ?_
  refine JX.o 0 0 [] rfl rfl rfl rfl rfl rfl rfl rfl rfl (fun ow_ ho_ => (.q rfl (by first | exact QW.load_box 0 ty25 (.tmp rfl) ho_ rfl rfl | exact QW.load_box 0 ty25 (.tmp rfl) ho_ (take_at (EX.cs_length _ _) rfl) (EX.cs_length _ _)))) ?_
  refine JX.f 1 [55] rfl rfl rfl rfl rfl rfl rfl rfl (fun ow_ => (.q rfl (QW.call gofn9 (.cons (Ev.le (.tmp rfl) (lisE_le2 X3)) .nil) (of14_ok (fr := true) (v := x3) Xc.self w3)))) ?_
  refine JX.o 2 3 [] rfl rfl rfl rfl rfl rfl rfl rfl rfl (fun ow_ ho_ => (.q rfl (QW.load_box 3 ty31 (.tmp rfl) ho_ rfl rfl))) ?_
  refine JX.f 3 [57] rfl rfl rfl rfl rfl rfl rfl rfl (fun ow_ => (.q rfl (QW.call gofn10 (.cons (Ev.le (.tmp rfl) (.aggL (.cons (.refl _) (.cons (.refl _) (.cons (.refl _) (.cons (.refl _) (.cons (.refl _) (.cons (.refl _) (.cons (.refl _) (.cons (.refl _) (.cons (.refl _) (.cons (.refl _) (.cons (.refl _) (.cons (.refl _) (.cons (.refl _) (.cons (.nil false false _) (.cons (.nil false false _) .nil))))))))))))))))) .nil) (of15_ok (s := (scL (.mk lk lb lt lks lis) (.mk xk xb xt xks xis))) hsw)))) ?_
  refine JX.f 4 [56, 58] rfl rfl rfl rfl rfl rfl rfl rfl (fun ow_ => (.q rfl (QW.call gofn11 (.cons (.tmp rfl) (.cons (.tmp rfl) (.cons .const .nil))) (evalR (fr := true) (e := x3) Xc.self w3 (s := (scL (.mk lk lb lt lks lis) (.mk xk xb xt xks xis))) hsw (f := 99) (by decide) E3)))) ?_
  refine JX.f 5 [59] rfl rfl rfl rfl rfl rfl rfl rfl (fun ow_ => (.q rfl (QW.move (.tmp rfl)))) ?_
  refine JX.f 6 [54] rfl rfl rfl rfl rfl rfl rfl rfl (fun ow_ => (.q rfl (QW.extract (.tmp rfl) rfl))) ?_
  refine JX.f 7 [54] rfl rfl rfl rfl rfl rfl rfl rfl (fun ow_ => (.q rfl (QW.extract (.tmp rfl) rfl))) ?_
  refine JX.f 8 [54] rfl rfl rfl rfl rfl rfl rfl rfl (fun ow_ => (.q rfl (QW.extract (.tmp rfl) rfl))) ?_
  refine JX.a 9 rfl (AllocOp.mk z29 rfl) rfl rfl rfl rfl rfl ?_
  refine JX.one 10 [true, false, false, true, true, true, true, true, true, true] rfl (by kernel_rfl) (by kernel_rfl) rfl rfl (by kernel_rfl) rfl fun bs10_ pe_ ex_ => ?_
  refine JL.conv (by (try simp only [vlF, bxF, tkM, lvM, Flt.val, Flt.bx, List.append_assoc, List.take_succ_cons, List.take_zero, List.append_eq, id_eq, stepsO, List.map_cons, List.map_nil, valO, nthO, curO, mrg, List.reverse_cons, List.reverse_nil, List.nil_append, List.cons_append, List.append_nil, List.getElem?_cons_zero, List.getElem?_cons_succ, Option.map_some, Option.getD_some, List.set_cons_zero, List.set_cons_succ, AV.cellsOf, splice_zero, splice_succ, Nat.zero_add, Nat.reduceAdd]); rfl) ?_
  first | refine JL.store_boxF 8 ty29 (.tmp rfl) rfl (.tmp rfl) (by first | rfl | assumption) (by first | rfl | exact V.cs_length _ _) (by first | rfl | exact V.cs_length _ _) rfl ?_ | refine JL.store_box 8 ty29 (.tmp rfl) rfl (.tmp rfl) (by first | rfl | assumption) (by first | rfl | exact V.cs_length _ _) rfl rfl rfl ?_
  refine JL.nil ?_
  refine thenQ.n ⟨[], _, rfl, rfl, rfl, rfl, rfl, Reown.tkN 9 rfl, trivial, ⟨trivial, ⟨trivial, trivial⟩⟩, ?_⟩
  refine JX.conv (S' := [10, 9, 6, 5, 4, 3, 2, 1, 0]) rfl (by (try simp only [lvM]); rfl) (by (try simp only [vlF, bxF, tkM, lvM, Flt.val, Flt.bx, List.append_assoc, List.take_succ_cons, List.take_zero, List.append_eq, id_eq, stepsO, List.map_cons, List.map_nil, valO, nthO, curO, mrg, List.reverse_cons, List.reverse_nil, List.nil_append, List.cons_append, List.append_nil, List.getElem?_cons_zero, List.getElem?_cons_succ, Option.map_some, Option.getD_some, List.set_cons_zero, List.set_cons_succ, AV.cellsOf, splice_zero, splice_succ, Nat.zero_add, Nat.reduceAdd]); rfl) ?_
  refine JX.f 11 [61] rfl rfl rfl rfl rfl rfl rfl rfl (fun ow_ => (.q rfl (QW.assign (.tmp rfl)))) ?_
  refine JX.f 12 [62] rfl rfl rfl rfl rfl rfl rfl rfl (fun ow_ => (.q rfl (QW.assign (.tmp rfl)))) ?_
  refine JX.fin (by kernel_rfl) (by kernel_rfl) fun bs_ => ?_
  refine QX.conv (by (try simp only [vlF, bxF, tkM, lvM, Flt.val, Flt.bx, List.append_assoc, List.take_succ_cons, List.take_zero, List.append_eq, id_eq, stepsO, List.map_cons, List.map_nil, valO, nthO, curO, mrg, List.reverse_cons, List.reverse_nil, List.nil_append, List.cons_append, List.append_nil, List.getElem?_cons_zero, List.getElem?_cons_succ, Option.map_some, Option.getD_some, List.set_cons_zero, List.set_cons_succ, AV.cellsOf, splice_zero, splice_succ, Nat.zero_add, Nat.reduceAdd]); rfl) ?_
  refine thenQ.n ?_
  refine J.seq ?_
  refine J.seq ?_
  refine J.region_lit ?_
  refine JL.q rfl rfl rfl (by first | exact QW.load_box 5 ty29 (.tmp rfl) rfl rfl rfl | exact QW.load_box 5 ty29 (.tmp rfl) rfl (take_at (V.cs_length _ _) rfl) (V.cs_length _ _)) ?_
  refine JL.q rfl rfl rfl (QW.call gofn20 (.cons (.tmp rfl) .nil) (rcheck_ok Vc.self hlw)) ?_
  refine JL.q rfl rfl rfl (QW.neq (.tmp rfl) .const) ?_
  refine JL.q rfl rfl rfl (QW.move (.tmp rfl)) ?_
  refine JL.g rfl rfl rfl rfl rfl (fun hg => (by first | exact QW.load_box 4 ty29 (.tmp rfl) rfl rfl rfl | exact QW.load_box 4 ty29 (.tmp rfl) rfl (take_at (V.cs_length _ _) rfl) (V.cs_length _ _))) ?_
  refine JL.g rfl rfl rfl rfl rfl (fun hg => (QW.call gofn20 (.cons (.when rfl hg) .nil) (rcheck_ok Vc.self hxw))) ?_
  refine JL.g rfl rfl rfl rfl rfl (fun hg => (QW.neq (.when rfl hg) .const)) ?_
  refine JL.q rfl rfl rfl (QW.pick_or (.tmp rfl) (.tmp rfl)) ?_
  refine JL.q rfl rfl rfl (QW.move (.tmp rfl)) ?_
  refine JL.g rfl rfl rfl rfl rfl (fun hg => (QW.field_ptr fo29_0 (.tmp rfl) rfl)) ?_
  refine JL.g rfl rfl rfl rfl rfl (fun hg => (QW.load_box1 5 ty3 (.when rfl hg) rfl rfl)) ?_
  refine JL.g rfl rfl rfl rfl rfl (fun hg => (QW.neq (.when rfl hg) .const)) ?_
  refine JL.q rfl rfl rfl (QW.pick_or (.tmp rfl) (.tmp rfl)) ?_
  refine JL.nil ?_
  refine thenQ.n ?_
  refine J.cond (.tmp rfl) (fun c2 => ?_) (fun c2 => ?_)
  · skip
    have hb := hbad (by show _ ∨ _ ∨ ¬ lk = 4; simp at c2; omega)
    simp only at hb
    refine J.seq ?_
    refine J.region_lit ?_
    refine JL.q rfl rfl rfl (QW.move (.tmp rfl)) ?_
    refine JL.q rfl rfl rfl (QW.call gofn14 (.cons (.tmp rfl) .nil) (num15_ok _)) ?_
    refine JL.q rfl rfl rfl (QW.neq (.tmp rfl) .const) ?_
    refine JL.q rfl rfl rfl (QW.move (.tmp rfl)) ?_
    refine JL.g rfl rfl rfl rfl rfl (fun hg => (QW.move (.tmp rfl))) ?_
    refine JL.g rfl rfl rfl rfl rfl (fun hg => (QW.call gofn14 (.cons (.when rfl hg) .nil) (num15_ok _))) ?_
    refine JL.g rfl rfl rfl rfl rfl (fun hg => (QW.neq (.when rfl hg) .const)) ?_
    refine JL.q rfl rfl rfl (QW.pick_and (.tmp rfl) (.tmp rfl)) ?_
    refine JL.q rfl rfl rfl (QW.move (.tmp rfl)) ?_
    refine JL.g rfl rfl rfl rfl rfl (fun hg => (QW.move (.tmp rfl))) ?_
    refine JL.g rfl rfl rfl rfl rfl (fun hg => (QW.call gofn14 (.cons (.when rfl hg) .nil) (num15_ok _))) ?_
    refine JL.g rfl rfl rfl rfl rfl (fun hg => (QW.neq (.when rfl hg) .const)) ?_
    refine JL.q rfl rfl rfl (QW.pick_and (.tmp rfl) (.tmp rfl)) ?_
    refine JL.q rfl rfl rfl (QW.assign (.tmp rfl)) ?_
    refine JL.nil ?_
    refine thenQ.n ?_
    refine J.ret ?_
    refine thenQ.r ?_
    exact ⟨_, selP [.k, .k, .k, .k, .k, .k, .k, .k, .k] _, _, RetEv.one rfl (REv.tmp rfl (.refl _)), rfl, sel_perm [.k, .k, .k, .k, .k, .k, .k, .k, .k] _, ⟨ret_b (by simp [hb]), rfl⟩⟩
  have hl0 : (V.mk lk lb lt lks lis).err = 0 := by (simp at c2; exact c2.1.1)
  have hx0 : (V.mk xk xb xt xks xis).err = 0 := by (simp at c2; exact c2.1.2)
  obtain ⟨⟨a1, a2⟩, ⟨f1, f2⟩, hp⟩ := hgood hl0 hx0 (by show lk = 4; (simp at c2; exact c2.2))
  have hk4 : lk = 4 := by (simp at c2; exact c2.2)
  have hli : V.mk lk lb lt lks lis = V.li lis := li_eq ⟨hlw, hl0⟩ hk4
  refine J.skip ?_
  refine thenQ.n ?_
  refine J.seq ?_
  refine J.seq ?_
  refine J.regionX mixed ?_
  refine JX.f 0 [] rfl rfl rfl rfl rfl rfl rfl rfl (fun ow_ => (.q rfl (QW.move (.tmp rfl)))) ?_
  refine JX.f 1 [89] rfl rfl rfl rfl rfl rfl rfl rfl (fun ow_ => (.q rfl (QW.call gofn14 (.cons (.tmp rfl) .nil) (num15_ok _)))) ?_
  refine JX.f 2 [90] rfl rfl rfl rfl rfl rfl rfl rfl (fun ow_ => (.q rfl (QW.neq (.tmp rfl) .const))) ?_
  refine JX.f 3 [91] rfl rfl rfl rfl rfl rfl rfl rfl (fun ow_ => (.q rfl (QW.move (.tmp rfl)))) ?_
  refine JX.o 4 7 [92] rfl rfl rfl rfl rfl rfl rfl rfl rfl (fun ow_ ho_ => (.g rfl rfl rfl (fun hg => (by first | exact QW.load_box 7 ty29 (.tmp rfl) ho_ rfl rfl | exact QW.load_box 7 ty29 (.tmp rfl) ho_ (take_at (V.cs_length _ _) rfl) (V.cs_length _ _))))) ?_
  refine JX.o 5 5 [92] rfl rfl rfl rfl rfl rfl rfl rfl rfl (fun ow_ ho_ => (.g rfl rfl rfl (fun hg => (by first | exact QW.load_box 5 ty29 (.tmp rfl) ho_ rfl rfl | exact QW.load_box 5 ty29 (.tmp rfl) ho_ (take_at (V.cs_length _ _) rfl) (V.cs_length _ _))))) ?_
  refine JX.f 6 [93, 94, 92] rfl rfl rfl rfl rfl rfl rfl rfl (fun ow_ => (.g rfl rfl rfl (fun hg => (QW.call gofn13 (.cons (.when rfl hg) (.cons (.when rfl hg) .nil)) (sameValue_ok (fr := true) (fr2 := false) (v := v2) (u := (.mk lk lb lt lks lis)) Vc.self Vc.self wv2 hlw))))) ?_
  refine JX.f 7 [95, 92] rfl rfl rfl rfl rfl rfl rfl rfl (fun ow_ => (.g rfl rfl rfl (fun hg => (QW.not (.when rfl hg))))) ?_
  refine JX.f 8 [92, 96] rfl rfl rfl rfl rfl rfl rfl rfl (fun ow_ => (.q rfl (QW.pick_or (.tmp rfl) (.tmp rfl)))) ?_
  refine JX.f 9 [97] rfl rfl rfl rfl rfl rfl rfl rfl (fun ow_ => (.q rfl (QW.move (.tmp rfl)))) ?_
  refine JX.f 10 [98] rfl rfl rfl rfl rfl rfl rfl rfl (fun ow_ => (.g rfl rfl rfl (fun hg => (QW.move (.tmp rfl))))) ?_
  refine JX.f 11 [99, 98] rfl rfl rfl rfl rfl rfl rfl rfl (fun ow_ => (.g rfl rfl rfl (fun hg => (QW.call gofn14 (.cons (.when rfl hg) .nil) (num15_ok _))))) ?_
  refine JX.f 12 [100, 98] rfl rfl rfl rfl rfl rfl rfl rfl (fun ow_ => (.g rfl rfl rfl (fun hg => (QW.eql (.when rfl hg) .const)))) ?_
  refine JX.f 13 [98] rfl rfl rfl rfl rfl rfl rfl rfl (fun ow_ => (.g rfl rfl rfl (fun hg => (QW.field_ptr fo29_4 (.tmp rfl) rfl)))) ?_
  refine JX.o 14 5 [102, 98] rfl rfl rfl rfl rfl rfl rfl rfl rfl (fun ow_ ho_ => (.g rfl rfl rfl (fun hg => (QW.load_box1 5 ty27 (.when rfl hg) ho_ rfl)))) ?_
  refine JX.f 15 [103, 98] rfl rfl rfl rfl rfl rfl rfl rfl (fun ow_ => (.g rfl rfl rfl (fun hg => (by first | exact QW.len_slE sl27 (.when rfl hg) (V.css_length _ _) | exact QW.len_sl sl27 (.when rfl hg) | exact QW.len_nil sl27 (.when rfl hg))))) ?_
  refine JX.f 16 [104, 98] rfl rfl rfl rfl rfl rfl rfl rfl (fun ow_ => (.g rfl rfl rfl (fun hg => (QW.gtr (.when rfl hg) .const)))) ?_
  refine JX.f 17 [101, 105, 98] rfl rfl rfl rfl rfl rfl rfl rfl (fun ow_ => (.g rfl rfl rfl (fun hg => (QW.neq_b bo4 (.when rfl hg) (.when rfl hg))))) ?_
  refine JX.f 18 [98, 106] rfl rfl rfl rfl rfl rfl rfl rfl (fun ow_ => (.q rfl (QW.pick_or (.tmp rfl) (.tmp rfl)))) ?_
  refine JX.fin (by kernel_rfl) (by kernel_rfl) fun bs_ => ?_
  refine QX.conv (by (try simp only [vlF, bxF, tkM, lvM, Flt.val, Flt.bx, List.append_assoc, List.take_succ_cons, List.take_zero, List.append_eq, id_eq, stepsO, List.map_cons, List.map_nil, valO, nthO, curO, mrg, List.reverse_cons, List.reverse_nil, List.nil_append, List.cons_append, List.append_nil, List.getElem?_cons_zero, List.getElem?_cons_succ, Option.map_some, Option.getD_some, List.set_cons_zero, List.set_cons_succ, AV.cellsOf, splice_zero, splice_succ, Nat.zero_add, Nat.reduceAdd]); rfl) ?_
  refine thenQ.n ?_
  refine J.cond (.tmp rfl) (fun c3 => ?_) (fun c3 => ?_)
  · skip
    exfalso
    simp only at a1 a2 f1
    rw [a1, a2] at c3
    by_cases hz : 0 < lis.length
    · have g1 : c3_ = 0 := f1.2 hz
      rw [g1] at c3; simp [V.same_refl, hz] at c3
    · have g1 : ¬ c3_ = 0 := mt f1.1 hz
      simp [V.same_refl, g1, hz] at c3
    --closed
  skip
  refine J.skip ?_
  refine thenQ.n ?_
  refine J.seq ?_
  refine J.seq ?_
  refine J.regionX mixed ?_
  refine JX.f 0 [] rfl rfl rfl rfl rfl rfl rfl rfl (fun ow_ => (.q rfl (QW.field_ptr fo29_4 (.tmp rfl) rfl))) ?_
  refine JX.o 1 5 [108] rfl rfl rfl rfl rfl rfl rfl rfl rfl (fun ow_ ho_ => (.q rfl (QW.load_box1 5 ty27 (.tmp rfl) ho_ rfl))) ?_
  refine JX.f 2 [109] rfl rfl rfl rfl rfl rfl rfl rfl (fun ow_ => (.q rfl (by first | exact QW.len_slE sl27 (.tmp rfl) (V.css_length _ _) | exact QW.len_sl sl27 (.tmp rfl) | exact QW.len_nil sl27 (.tmp rfl)))) ?_
  refine JX.f 3 [110] rfl rfl rfl rfl rfl rfl rfl rfl (fun ow_ => (.q rfl (QW.gtr (.tmp rfl) .const))) ?_
  refine JX.f 4 [111] rfl rfl rfl rfl rfl rfl rfl rfl (fun ow_ => (.q rfl (QW.move (.tmp rfl)))) ?_
  refine JX.o 5 8 [112] rfl rfl rfl rfl rfl rfl rfl rfl rfl (fun ow_ ho_ => (.g rfl rfl rfl (fun hg => (by first | exact QW.load_box 8 ty29 (.tmp rfl) ho_ rfl rfl | exact QW.load_box 8 ty29 (.tmp rfl) ho_ (take_at (V.cs_length _ _) rfl) (V.cs_length _ _))))) ?_
  refine JX.f 6 [112] rfl rfl rfl rfl rfl rfl rfl rfl (fun ow_ => (.g rfl rfl rfl (fun hg => (QW.field_ptr fo29_4 (.tmp rfl) rfl)))) ?_
  refine JX.o 7 5 [114, 112] rfl rfl rfl rfl rfl rfl rfl rfl rfl (fun ow_ ho_ => (.g rfl rfl rfl (fun hg => (QW.load_box1 5 ty27 (.when rfl hg) ho_ rfl)))) ?_
  refine JX.f 8 [115, 112] rfl rfl rfl rfl rfl rfl rfl rfl (fun ow_ => (.g rfl rfl rfl (fun hg => (QW.index_sl sl27 ty29 rfl (.when rfl hg) .const (by first | rfl | omega | (simp; done)) (by exact css_getD (by simpa using hg)))))) ?_
  refine JX.f 9 [116, 112] rfl rfl rfl rfl rfl rfl rfl rfl (fun ow_ => (.g rfl rfl rfl (fun hg => (by first | exact QW.load_ref ty29 (.when rfl hg) rfl rfl | exact QW.load_ref ty29 (.when rfl hg) (take_at0 (V.cs_length _ _) rfl) (V.cs_length _ _))))) ?_
  refine JX.f 10 [113, 117, 112] rfl rfl rfl rfl rfl rfl rfl rfl (fun ow_ => (.g rfl rfl rfl (fun hg => (QW.call gofn13 (.cons (.when rfl hg) (.cons (.when rfl hg) .nil)) (sameValue_ok (fr := true) (fr2 := false) (v := v3) (u := lis.getD 0 .nil) Vc.self Vc.self wv3 (hwi _ (getD_mem (by simpa using hg)))))))) ?_
  refine JX.f 11 [118, 112] rfl rfl rfl rfl rfl rfl rfl rfl (fun ow_ => (.g rfl rfl rfl (fun hg => (QW.not (.when rfl hg))))) ?_
  refine JX.f 12 [112, 119] rfl rfl rfl rfl rfl rfl rfl rfl (fun ow_ => (.q rfl (QW.pick_and (.tmp rfl) (.tmp rfl)))) ?_
  refine JX.fin (by kernel_rfl) (by kernel_rfl) fun bs_ => ?_
  refine QX.conv (by (try simp only [vlF, bxF, tkM, lvM, Flt.val, Flt.bx, List.append_assoc, List.take_succ_cons, List.take_zero, List.append_eq, id_eq, stepsO, List.map_cons, List.map_nil, valO, nthO, curO, mrg, List.reverse_cons, List.reverse_nil, List.nil_append, List.cons_append, List.append_nil, List.getElem?_cons_zero, List.getElem?_cons_succ, Option.map_some, Option.getD_some, List.set_cons_zero, List.set_cons_succ, AV.cellsOf, splice_zero, splice_succ, Nat.zero_add, Nat.reduceAdd]); rfl) ?_
  refine thenQ.n ?_
  refine J.cond (.tmp rfl) (fun c4 => ?_) (fun c4 => ?_)
  · skip
    exfalso
    by_cases hz : 0 < lis.length
    · have g2 : v3 = lis[0] := f2 hz
      rw [g2, getD_eq hz] at c4; simp [V.same_refl] at c4
    · simp [hz] at c4
    --closed
  skip
  refine J.skip ?_
  refine thenQ.n ?_
  refine J.seq ?_
  refine J.seq ?_
  refine J.region_lit ?_
  refine JL.q rfl rfl rfl (QW.move (.tmp rfl)) ?_
  refine JL.q rfl rfl rfl (QW.call gofn14 (.cons (.tmp rfl) .nil) (num15_ok _)) ?_
  refine JL.q rfl rfl rfl (QW.neq (.tmp rfl) .const) ?_
  refine JL.nil ?_
  refine thenQ.n ?_
  refine J.cond (.tmp rfl) (fun c5 => ?_) (fun c5 => ?_)
  · skip
    have hb : c1_ ≠ 0 := by simpa using c5
    refine J.seq ?_
    refine J.region_lit ?_
    refine JL.q rfl rfl rfl (QW.move (.tmp rfl)) ?_
    refine JL.q rfl rfl rfl (QW.call gofn14 (.cons (.tmp rfl) .nil) (num15_ok _)) ?_
    refine JL.q rfl rfl rfl (QW.eql (.tmp rfl) .const) ?_
    refine JL.q rfl rfl rfl (QW.assign (.tmp rfl)) ?_
    refine JL.nil ?_
    refine thenQ.n ?_
    refine J.ret ?_
    refine thenQ.r ?_
    exact ⟨_, selP [.k, .k, .k, .k, .k, .k, .k, .k, .k] _, _, RetEv.one rfl (REv.tmp rfl (.refl _)), rfl, sel_perm [.k, .k, .k, .k, .k, .k, .k, .k, .k] _, ⟨ret_b (by rw [show c1_ = 84 from hp.resolve_right (fun h => hb h.1)]; rfl), rfl⟩⟩
  have hb : c1_ = 0 := by simpa using c5
  obtain ⟨-, hP⟩ := hp.resolve_left (by show ¬ c1_ = 84; omega)
  have hP2 : v1 = V.li (lis ++ [(.mk xk xb xt xks xis)]) := hP
  refine J.skip ?_
  refine thenQ.n ?_
  refine J.seq ?_
  rw [hP2]
  refine J.region_lit ?_
  refine JL.q rfl rfl rfl (QW.field_ptr fo29_4 (.tmp rfl) rfl) ?_
  refine JL.q rfl rfl rfl (QW.load_box1 5 ty27 (.tmp rfl) rfl rfl) ?_
  refine JL.q rfl rfl rfl (by first | exact QW.len_slE sl27 (.tmp rfl) (V.css_length _ _) | exact QW.len_sl sl27 (.tmp rfl) | exact QW.len_nil sl27 (.tmp rfl)) ?_
  refine JL.q rfl rfl rfl (QW.assign (.tmp rfl)) ?_
  refine JL.nil ?_
  refine thenQ.n ?_
  refine J.seq ?_
  refine J.regionX mixed ?_
  refine JX.f 0 [] rfl rfl rfl rfl rfl rfl rfl rfl (fun ow_ => (.q rfl (QW.field_ptr fo29_4 (.tmp rfl) rfl))) ?_
  refine JX.o 1 6 [130] rfl rfl rfl rfl rfl rfl rfl rfl rfl (fun ow_ ho_ => (.q rfl (QW.load_box1 6 ty27 (.tmp rfl) ho_ rfl))) ?_
  refine JX.f 2 [131] rfl rfl rfl rfl rfl rfl rfl rfl (fun ow_ => (.q rfl (by first | exact QW.len_slE sl27 (.tmp rfl) (V.css_length _ _) | exact QW.len_sl sl27 (.tmp rfl) | exact QW.len_nil sl27 (.tmp rfl)))) ?_
  refine JX.f 3 [] rfl rfl rfl rfl rfl rfl rfl rfl (fun ow_ => (.q rfl (QW.move (.tmp rfl)))) ?_
  refine JX.f 4 [133] rfl rfl rfl rfl rfl rfl rfl rfl (fun ow_ => (.q rfl (QW.add (.tmp rfl) .const (w64 (by omega))))) ?_
  refine JX.f 5 [132, 134] rfl rfl rfl rfl rfl rfl rfl rfl (fun ow_ => (.q rfl (QW.eql (.tmp rfl) (.tmp rfl)))) ?_
  refine JX.f 6 [135] rfl rfl rfl rfl rfl rfl rfl rfl (fun ow_ => (.q rfl (QW.move (.tmp rfl)))) ?_
  refine JX.f 7 [136] rfl rfl rfl rfl rfl rfl rfl rfl (fun ow_ => (.g rfl rfl rfl (fun hg => (QW.field_ptr fo29_4 (.tmp rfl) rfl)))) ?_
  refine JX.o 8 6 [137, 136] rfl rfl rfl rfl rfl rfl rfl rfl rfl (fun ow_ ho_ => (.g rfl rfl rfl (fun hg => (QW.load_box1 6 ty27 (.when rfl hg) ho_ rfl)))) ?_
  refine JX.f 9 [136] rfl rfl rfl rfl rfl rfl rfl rfl (fun ow_ => (.g rfl rfl rfl (fun hg => (QW.move (.tmp rfl))))) ?_
  refine JX.f 10 [138, 139, 136] rfl rfl rfl rfl rfl rfl rfl rfl (fun ow_ => (.g rfl rfl rfl (fun hg => (QW.index_sl sl27 ty29 rfl (.when rfl hg) (.when rfl hg) (by first | rfl | omega | (simp; done)) (by exact css_last _ _))))) ?_
  refine JX.f 11 [140, 136] rfl rfl rfl rfl rfl rfl rfl rfl (fun ow_ => (.g rfl rfl rfl (fun hg => (by first | exact QW.load_ref ty29 (.when rfl hg) rfl rfl | exact QW.load_ref ty29 (.when rfl hg) (take_at0 (V.cs_length _ _) rfl) (V.cs_length _ _))))) ?_
  refine JX.o 12 4 [136] rfl rfl rfl rfl rfl rfl rfl rfl rfl (fun ow_ ho_ => (.g rfl rfl rfl (fun hg => (by first | exact QW.load_box 4 ty29 (.tmp rfl) ho_ rfl rfl | exact QW.load_box 4 ty29 (.tmp rfl) ho_ (take_at (V.cs_length _ _) rfl) (V.cs_length _ _))))) ?_
  refine JX.f 13 [141, 142, 136] rfl rfl rfl rfl rfl rfl rfl rfl (fun ow_ => (.g rfl rfl rfl (fun hg => (QW.call gofn13 (.cons (.when rfl hg) (.cons (.when rfl hg) .nil)) (sameValue_ok (fr := true) (fr2 := false) (v := (.mk xk xb xt xks xis)) (u := (.mk xk xb xt xks xis)) Vc.self Vc.self hxw hxw))))) ?_
  refine JX.f 14 [136, 143] rfl rfl rfl rfl rfl rfl rfl rfl (fun ow_ => (.q rfl (QW.pick_and (.tmp rfl) (.tmp rfl)))) ?_
  refine JX.f 15 [144] rfl rfl rfl rfl rfl rfl rfl rfl (fun ow_ => (.q rfl (QW.move (.tmp rfl)))) ?_
  refine JX.f 16 [145] rfl rfl rfl rfl rfl rfl rfl rfl (fun ow_ => (.g rfl rfl rfl (fun hg => (QW.field_ptr fo29_4 (.tmp rfl) rfl)))) ?_
  refine JX.o 17 6 [146, 145] rfl rfl rfl rfl rfl rfl rfl rfl rfl (fun ow_ ho_ => (.g rfl rfl rfl (fun hg => (QW.load_box1 6 ty27 (.when rfl hg) ho_ rfl)))) ?_
  refine JX.f 18 [145] rfl rfl rfl rfl rfl rfl rfl rfl (fun ow_ => (.g rfl rfl rfl (fun hg => (QW.move (.tmp rfl))))) ?_
  refine JX.f 19 [147, 148, 145] rfl rfl rfl rfl rfl rfl rfl rfl (fun ow_ => (.g rfl rfl rfl (fun hg => ((QW.slice_H sl27 ty29 rfl (.when rfl hg) (.when rfl hg) rfl (by rw [V.css_length]; simp)).conv (by rw [css_takeL]))))) ?_
  refine JX.f 20 [149, 145] rfl rfl rfl rfl rfl rfl rfl rfl (fun ow_ => (.g rfl rfl rfl (fun hg => (QW.build (idx := [0, 4]) pl29 z29 rfl (.cons .const (.cons (.when rfl hg) .nil)) rfl rfl rfl rfl)))) ?_
  refine JX.o 21 5 [145] rfl rfl rfl rfl rfl rfl rfl rfl rfl (fun ow_ ho_ => (.g rfl rfl rfl (fun hg => (by first | exact QW.load_box 5 ty29 (.tmp rfl) ho_ rfl rfl | exact QW.load_box 5 ty29 (.tmp rfl) ho_ (take_at (V.cs_length _ _) rfl) (V.cs_length _ _))))) ?_
  refine JX.f 22 [150, 151, 145] rfl rfl rfl rfl rfl rfl rfl rfl (fun ow_ => (.g rfl rfl rfl (fun hg => (QW.call gofn13 (.cons (Ev.le (.when rfl hg) (.aggL (.cons (.refl _) (.cons (.refl _) (.cons (.refl _) (.cons (.nil true false _) (.cons (.refl _) .nil))))))) (.cons (.when rfl hg) .nil)) (sameValue_ok (fr := true) (fr2 := false) (v := .li lis) (u := (.mk lk lb lt lks lis)) Vc.self Vc.self (hli ▸ hlw) hlw))))) ?_
  refine JX.f 23 [145, 152] rfl rfl rfl rfl rfl rfl rfl rfl (fun ow_ => (.q rfl (QW.pick_and (.tmp rfl) (.tmp rfl)))) ?_
  refine JX.f 24 [153] rfl rfl rfl rfl rfl rfl rfl rfl (fun ow_ => (.q rfl (QW.assign (.tmp rfl)))) ?_
  refine JX.fin (by kernel_rfl) (by kernel_rfl) fun bs_ => ?_
  refine QX.conv (by (try simp only [vlF, bxF, tkM, lvM, Flt.val, Flt.bx, List.append_assoc, List.take_succ_cons, List.take_zero, List.append_eq, id_eq, stepsO, List.map_cons, List.map_nil, valO, nthO, curO, mrg, List.reverse_cons, List.reverse_nil, List.nil_append, List.cons_append, List.append_nil, List.getElem?_cons_zero, List.getElem?_cons_succ, Option.map_some, Option.getD_some, List.set_cons_zero, List.set_cons_succ, AV.cellsOf, splice_zero, splice_succ, Nat.zero_add, Nat.reduceAdd]); rfl) ?_
  refine thenQ.n ?_
  refine J.ret ?_
  exact ⟨_, selP [.k, .k, .k, .k, .k, .k, .k, .k, .k] _, _, RetEv.one rfl (REv.tmp rfl (.refl _)), rfl, sel_perm [.k, .k, .k, .k, .k, .k, .k, .k, .k] _, ⟨ret_b (by rw [hli]; simp [V.same_refl]), rfl⟩⟩
end Go.Proofs.YtjhonjdhanlbkaaGreat.J

