/- Texts of this proof, laid together. -/
import Derived.Test.YtjhonjdhanlbkaaGreatX2REvalLists
import Derived.Lib.AppendZerosOnto
import Derived.Laws.Externs
set_option linter.unusedVariables false
set_option linter.unusedSimpArgs false
/- Walks: both walks over a value. -/
namespace Go.Proofs.YtjhonjdhanlbkaaGreat.J
open Go Go.RowKit
set_option maxRecDepth 10000
set_option maxHeartbeats 4000000
theorem V.chks_cons {is : List V} {j : Nat} (h : j < is.length) (lev n : Int) : V.chks (is.drop j) lev n = if (V.chk is[j] (lev + 1) n).1 ≠ 0 then V.chk is[j] (lev + 1) n else V.chks (is.drop (j + 1)) lev (V.chk is[j] (lev + 1) n).2 := by
  rw [List.drop_eq_getElem_cons h, V.chks]
theorem V.depths_cons {is : List V} {j : Nat} (h : j < is.length) : V.depths (is.drop j) = max is[j].depth (V.depths (is.drop (j + 1))) := by
  rw [List.drop_eq_getElem_cons h, V.depths]
def WalkR (v : V) (lev n : Int) : AV → List Own → Prop := fun x o => o = [] ∧ ∃ p d : Int, x = .tup [.c (.int .i64 p), .c (.int .i64 d), .c (.int .i64 (v.chk lev n).1)] ∧ ((v.chk lev n).1 = 0 → p = (v.chk lev n).2 ∧ d = lev + v.depth - 1)
theorem WalkR.mk {v : V} {lev n p d e : Int} (he : e = (v.chk lev n).1) (h : (v.chk lev n).1 = 0 → p = (v.chk lev n).2 ∧ d = lev + v.depth - 1) : RetR (WalkR v lev n) (.ret (.tup [.c (.int .i64 p), .c (.int .i64 d), .c (.int .i64 e)])) [] :=
  ⟨_, rfl, rfl, p, d, by rw [he], h⟩
theorem rwalk_n  : ∀ (n : Nat) {v : V} {ys : List AV} {fr : Bool} {lev p : Int}, Vc fr v ys → v.wf → 1 ≤ lev ∧ lev ≤ 9 → 0 ≤ p ∧ p ≤ 512 → v.sz ≤ n →
    AC Tryz.prog 29 [] [.agg ys, .c (.int .i64 lev), .c (.int .i64 p)] (RetR (WalkR v lev p)) := by
  intro n
  induction n with
  | zero => intro v ys fr lev p hv hw hl hp h; exact absurd h (by have := V.sz_pos v; omega)
  | succ n ih =>
    intro v ys fr lev p hv hw hl hp hn
    obtain ⟨k, b, t, ks, is⟩ := v
    subst hv
    obtain ⟨-, -, -, -, hi80, -, hwi⟩ := hw.inv
    have hi64 : is.length ≤ 9223372036854775806 := by unfold reach at hi80; omega
    refine AC.of_J Tryz.func29 rfl Tryz.ntmps29 rfl fun w0 A0 => ?_
    refine J.seq ?_
    refine J.region_lit ?_
    refine JL.box_agg (.tmp rfl) rfl fun b3 => ?_
    refine JL.q rfl rfl rfl (QW.assign .const) ?_
    refine JL.q rfl rfl rfl (QW.assign .const) ?_
    refine JL.q rfl rfl rfl (QW.assign .const) ?_
    refine JL.nil ?_
    refine thenQ.n ?_
    refine J.seq ?_
    refine J.block ?_
    refine J.seq ?_
    refine J.region_lit ?_
    refine JL.q rfl rfl rfl (QW.move (.tmp rfl)) ?_
    refine JL.q rfl rfl rfl (QW.gtr (.tmp rfl) .const) ?_
    refine JL.q rfl rfl rfl (QW.assign (.tmp rfl)) ?_
    refine JL.nil ?_
    refine thenQ.n ?_
    refine J.cond (.tmp rfl) (fun c1 => ?_) (fun c1 => ?_)
    · skip
      simp at c1
      refine J.seq ?_
      refine J.region_lit ?_
      refine JL.q rfl rfl rfl (QW.move (.tmp rfl)) ?_
      refine JL.q rfl rfl rfl (QW.move (.tmp rfl)) ?_
      refine JL.q rfl rfl rfl (QW.assign (.tmp rfl)) ?_
      refine JL.q rfl rfl rfl (QW.assign (.tmp rfl)) ?_
      refine JL.q rfl rfl rfl (QW.assign .const) ?_
      refine JL.nil ?_
      refine thenQ.n ?_
      refine J.ret ?_
      refine blkQ.r ?_
      refine thenQ.r ?_
      exact ⟨_, selP [.k] _, _, RetEv.three rfl (REv.tmp rfl (.refl _)) (REv.tmp rfl (.refl _)) (REv.tmp rfl (.refl _)), rfl, sel_perm [.k] _, WalkR.mk (by simp [V.chk, c1]) (fun h => by simp [V.chk, c1] at h)⟩
    simp at c1
    refine J.seq ?_
    refine J.region_lit ?_
    refine JL.q rfl rfl rfl (QW.move (.tmp rfl)) ?_
    refine JL.q rfl rfl rfl (QW.geq (.tmp rfl) .const) ?_
    refine JL.q rfl rfl rfl (QW.assign (.tmp rfl)) ?_
    refine JL.nil ?_
    refine thenQ.n ?_
    refine J.cond (.tmp rfl) (fun c2 => ?_) (fun c2 => ?_)
    · skip
      simp at c2
      refine J.seq ?_
      refine J.region_lit ?_
      refine JL.q rfl rfl rfl (QW.move (.tmp rfl)) ?_
      refine JL.q rfl rfl rfl (QW.move (.tmp rfl)) ?_
      refine JL.q rfl rfl rfl (QW.assign (.tmp rfl)) ?_
      refine JL.q rfl rfl rfl (QW.assign (.tmp rfl)) ?_
      refine JL.q rfl rfl rfl (QW.assign .const) ?_
      refine JL.nil ?_
      refine thenQ.n ?_
      refine J.ret ?_
      refine blkQ.r ?_
      refine thenQ.r ?_
      exact ⟨_, selP [.k] _, _, RetEv.three rfl (REv.tmp rfl (.refl _)) (REv.tmp rfl (.refl _)) (REv.tmp rfl (.refl _)), rfl, sel_perm [.k] _, WalkR.mk (by simp [V.chk, show ¬ 8 < lev by omega, c2]) (fun h => by simp [V.chk, show ¬ 8 < lev by omega, c2] at h)⟩
    simp at c2
    refine J.seq ?_
    refine J.region_lit ?_
    refine JL.q rfl rfl rfl (by first | exact QW.load_box 0 ty29 (.tmp rfl) rfl rfl rfl | exact QW.load_box 0 ty29 (.tmp rfl) rfl (take_at (V.cs_length _ _) rfl) (V.cs_length _ _)) ?_
    refine JL.q rfl rfl rfl (QW.call gofn39 (.cons (.tmp rfl) .nil) (rpart_ok Vc.mk hw)) ?_
    refine JL.q rfl rfl rfl (QW.not (.tmp rfl)) ?_
    refine JL.q rfl rfl rfl (QW.assign (.tmp rfl)) ?_
    refine JL.nil ?_
    refine thenQ.n ?_
    refine J.cond (.tmp rfl) (fun c3 => ?_) (fun c3 => ?_)
    · skip
      simp at c3
      refine J.seq ?_
      refine J.region_lit ?_
      refine JL.q rfl rfl rfl (QW.move (.tmp rfl)) ?_
      refine JL.q rfl rfl rfl (QW.move (.tmp rfl)) ?_
      refine JL.q rfl rfl rfl (QW.assign (.tmp rfl)) ?_
      refine JL.q rfl rfl rfl (QW.assign (.tmp rfl)) ?_
      refine JL.q rfl rfl rfl (QW.assign .const) ?_
      refine JL.nil ?_
      refine thenQ.n ?_
      refine J.ret ?_
      refine blkQ.r ?_
      refine thenQ.r ?_
      exact ⟨_, selP [.k] _, _, RetEv.three rfl (REv.tmp rfl (.refl _)) (REv.tmp rfl (.refl _)) (REv.tmp rfl (.refl _)), rfl, sel_perm [.k] _, WalkR.mk (by simp [V.chk, show ¬ 8 < lev by omega, show ¬ 512 ≤ p by omega, c3]) (fun h => by simp [V.chk, show ¬ 8 < lev by omega, show ¬ 512 ≤ p by omega, c3] at h)⟩
    simp at c3
    refine J.skip ?_
    refine blkQ.n ?_
    refine thenQ.n ?_
    refine J.seq ?_
    refine J.region_lit ?_
    refine JL.q rfl rfl rfl (QW.move (.tmp rfl)) ?_
    refine JL.q rfl rfl rfl (QW.add (.tmp rfl) .const (by first | exact w64n (by first | rfl | omega | (simp; done)) (by omega) | exact w64 (by omega) | rfl)) ?_
    refine JL.q rfl rfl rfl (QW.assign (.tmp rfl)) ?_
    refine JL.nil ?_
    refine thenQ.n ?_
    refine J.seq ?_
    refine J.region_lit ?_
    refine JL.q rfl rfl rfl (QW.move (.tmp rfl)) ?_
    refine JL.q rfl rfl rfl (QW.assign (.tmp rfl)) ?_
    refine JL.nil ?_
    refine thenQ.n ?_
    refine J.seq ?_
    refine J.seq ?_
    refine J.region_lit ?_
    refine JL.q rfl rfl rfl (QW.assign .const) ?_
    refine JL.nil ?_
    refine thenQ.n ?_
    refine J.block ?_
    have hck : V.chk (.mk k b t ks is) lev p = V.chks is lev (p + 1) := by unfold V.chk; rw [if_neg (by omega), if_neg (by omega), if_neg (by simp [c3])]
    refine J.loopK (ι := Nat × Int × Int) [1, 3] (fun ⟨j, q, e⟩ => [(10, .c (.int .i64 (j : Int))), (2, .c (.int .i64 q)), (9, .c (.int .i64 e))]) (fun _ oo => oo) (fun ⟨j, q, e⟩ => j ≤ is.length ∧ V.chks is lev (p + 1) = V.chks (is.drop j) lev q ∧ max e (lev + V.depths (is.drop j)) = lev + V.depths is ∧ (0 ≤ q ∧ q ≤ 512 ∧ lev ≤ e)) (fun ⟨j, q, e⟩ => is.length - j) ⟨0, p + 1, lev⟩ (⟨Nat.zero_le _, rfl, by have := V.depths_nonneg is; rw [List.drop_zero]; omega, by omega⟩) (Wk.re (.cons rfl (.refl _) (.cons rfl (.refl _) (.cons rfl (.refl _) (.cons rfl (.refl _) (.cons rfl (.refl _) .nil))))) (Reown.refl _) (fun _ h => by first | exact h | simp [h])) ?_
    intro ⟨j, q, e⟩ ⟨hj, hcs, hde, hq⟩
    refine J.conv (by (try simp only [id_eq, stepsO, List.map_cons, List.map_nil, valO, nthO, curO, mrg, List.reverse_cons, List.reverse_nil, List.nil_append, List.cons_append, List.append_nil, List.getElem?_cons_zero, List.getElem?_cons_succ, Option.map_some, Option.getD_some, List.set_cons_zero, List.set_cons_succ, AV.cellsOf, splice_zero, splice_succ, Nat.zero_add, Nat.reduceAdd]); rfl) ?_
    refine J.seq ?_
    refine J.seq ?_
    refine J.region_lit ?_
    refine JL.q rfl rfl rfl (QW.move (.tmp rfl)) ?_
    refine JL.q rfl rfl rfl (QW.field_ptr fo29_4 (.tmp rfl) rfl) ?_
    refine JL.q rfl rfl rfl (QW.load_box1 0 ty27 (.tmp rfl) rfl rfl) ?_
    refine JL.q rfl rfl rfl (by first | exact QW.len_sl sl27 (.tmp rfl) | exact QW.len_nil sl27 (.tmp rfl)) ?_
    refine JL.q rfl rfl rfl (QW.lss (.tmp rfl) (.tmp rfl)) ?_
    refine JL.nil ?_
    refine thenQ.n ?_
    refine J.cond (.tmp rfl) (fun c4 => ?_) (fun c4 => ?_)
    · skip
      have hlt : j < is.length := by simpa [V.css_length] using c4
      refine J.skip ?_
      refine thenQ.n ?_
      refine J.seq ?_
      refine J.block ?_
      refine J.seq ?_
      refine J.region_lit ?_
      refine JL.q rfl rfl rfl (QW.field_ptr fo29_4 (.tmp rfl) rfl) ?_
      refine JL.q rfl rfl rfl (QW.load_box1 0 ty27 (.tmp rfl) rfl rfl) ?_
      refine JL.q rfl rfl rfl (QW.move (.tmp rfl)) ?_
      refine JL.q rfl rfl rfl (QW.index_sl sl27 ty29 rfl (.tmp rfl) (.tmp rfl) (by first | rfl | omega | (simp; done)) (by exact V.css_getE _ hlt)) ?_
      refine JL.q rfl rfl rfl (by first | exact QW.load_ref ty29 (.tmp rfl) rfl rfl | exact QW.load_ref ty29 (.tmp rfl) (take_at0 (V.cs_length _ _) rfl) (V.cs_length _ _)) ?_
      refine JL.q rfl rfl rfl (QW.move (.tmp rfl)) ?_
      refine JL.q rfl rfl rfl (QW.add (.tmp rfl) .const (by first | exact w64n (by first | rfl | omega | (simp; done)) (by omega) | exact w64 (by omega) | rfl)) ?_
      refine JL.q rfl rfl rfl (QW.move (.tmp rfl)) ?_
      refine JL.callRF [] gofn29 rfl Lent.nil (fun _ => (.cons (.tmp rfl) (.cons (.tmp rfl) (.cons (.tmp rfl) .nil)))) (ih (by first | exact Vc.self | exact Vc.mk) (hwi _ (List.getElem_mem _)) (by omega) (by omega) (V.sz_get hn hlt)) (.inl rfl) fun x49 o49 h49 => ?_
      obtain ⟨rfl, p49, d49, rfl, hp49⟩ := h49
      have hlt : j < is.length := by simpa [V.css_length] using c4
      refine JL.q rfl rfl rfl (QW.move (.tmp rfl)) ?_
      refine JL.q rfl rfl rfl (QW.extract (.tmp rfl) rfl) ?_
      refine JL.q rfl rfl rfl (QW.extract (.tmp rfl) rfl) ?_
      refine JL.q rfl rfl rfl (QW.extract (.tmp rfl) rfl) ?_
      refine JL.q rfl rfl rfl (QW.assign (.tmp rfl)) ?_
      refine JL.q rfl rfl rfl (QW.assign (.tmp rfl)) ?_
      refine JL.q rfl rfl rfl (QW.assign (.tmp rfl)) ?_
      refine JL.nil ?_
      refine thenQ.n ?_
      refine J.seq ?_
      refine J.seq ?_
      refine J.region_lit ?_
      refine JL.q rfl rfl rfl (QW.move (.tmp rfl)) ?_
      refine JL.q rfl rfl rfl (QW.neq (.tmp rfl) .const) ?_
      refine JL.nil ?_
      refine thenQ.n ?_
      refine J.cond (.tmp rfl) (fun c5 => ?_) (fun c5 => ?_)
      · skip
        simp at c5
        refine J.seq ?_
        refine J.region_lit ?_
        refine JL.q rfl rfl rfl (QW.move (.tmp rfl)) ?_
        refine JL.q rfl rfl rfl (QW.move (.tmp rfl)) ?_
        refine JL.q rfl rfl rfl (QW.move (.tmp rfl)) ?_
        refine JL.q rfl rfl rfl (QW.assign (.tmp rfl)) ?_
        refine JL.q rfl rfl rfl (QW.assign (.tmp rfl)) ?_
        refine JL.q rfl rfl rfl (QW.assign (.tmp rfl)) ?_
        refine JL.nil ?_
        refine thenQ.n ?_
        refine J.ret ?_
        refine thenQ.r ?_
        refine blkQ.r ?_
        refine thenQ.r ?_
        refine thenQ.r ?_
        refine blkQ.r ?_
        refine thenQ.r ?_
        rw [V.chks_cons hlt, if_pos (by simpa using c5)] at hcs
        have he := hck.trans hcs
        exact ⟨_, selP [.k] _, _, RetEv.three rfl (REv.tmp rfl (.refl _)) (REv.tmp rfl (.refl _)) (REv.tmp rfl (.refl _)), rfl, sel_perm [.k] _, WalkR.mk (by rw [he]) (fun h => absurd (by rw [he] at h; exact h) c5)⟩
      simp at c5
      refine J.skip ?_
      refine thenQ.n ?_
      refine J.region_lit ?_
      refine JL.q rfl rfl rfl (QW.move (.tmp rfl)) ?_
      refine JL.q rfl rfl rfl (QW.move (.tmp rfl)) ?_
      refine JL.q rfl rfl rfl (QW.move (.tmp rfl)) ?_
      refine JL.q rfl rfl rfl (QW.max2 (.tmp rfl) (.tmp rfl)) ?_
      refine JL.q rfl rfl rfl (QW.assign (.tmp rfl)) ?_
      refine JL.q rfl rfl rfl (QW.assign (.tmp rfl)) ?_
      refine JL.nil ?_
      refine blkQ.n ?_
      refine thenQ.n ?_
      refine J.region_lit ?_
      refine JL.q rfl rfl rfl (QW.move (.tmp rfl)) ?_
      refine JL.q rfl rfl rfl (QW.add (.tmp rfl) .const (by first | exact w64n (by first | rfl | omega | (simp; done)) (by omega) | exact w64 (by omega) | rfl)) ?_
      refine JL.q rfl rfl rfl (QW.assign (.tmp rfl)) ?_
      refine JL.nil ?_
      refine thenQ.n ?_
      have hb := V.chk_bounds is[j] (lev + 1) q
      obtain ⟨hq1, hq2⟩ := hp49 c5
      rw [V.chks_cons hlt, if_neg (by simp [c5])] at hcs
      rw [V.depths_cons hlt] at hde
      exact ⟨⟨j + 1, p49, max e d49⟩, ⟨hlt, by rw [hcs, hq1], by omega, by omega⟩, by show is.length - (j + 1) < is.length - j; omega, Wk.re (.cons rfl (.refl _) (.cons rfl (.refl _) (.cons rfl (Le.intE (by simp only [Int.max_def]; split <;> split <;> omega)) (.cons rfl (.refl _) (.cons rfl (.refl _) .nil))))) (Reown.refl _) (fun _ h => by first | exact h | simp [h])⟩
    have hge : is.length ≤ j := by simpa [V.css_length] using c4
    refine J.exit ?_
    refine thenQ.x ?_
    refine thenQ.x ?_
    refine blkQ.hit ?_
    refine thenQ.n ?_
    refine J.seq ?_
    refine J.region_lit ?_
    refine JL.q rfl rfl rfl (QW.move (.tmp rfl)) ?_
    refine JL.q rfl rfl rfl (QW.move (.tmp rfl)) ?_
    refine JL.q rfl rfl rfl (QW.assign (.tmp rfl)) ?_
    refine JL.q rfl rfl rfl (QW.assign (.tmp rfl)) ?_
    refine JL.q rfl rfl rfl (QW.assign .const) ?_
    refine JL.nil ?_
    refine thenQ.n ?_
    refine J.ret ?_
    obtain rfl : j = is.length := by omega
    simp only [List.drop_length, V.chks, V.depths] at hcs hde
    have he := hck.trans hcs
    exact ⟨_, selP [.k] _, _, RetEv.three rfl (REv.tmp rfl (.refl _)) (REv.tmp rfl (.refl _)) (REv.tmp rfl (.refl _)), rfl, sel_perm [.k] _, WalkR.mk (by rw [he]) (fun h => ⟨by rw [he], by unfold V.depth; omega⟩)⟩
theorem rwalk_ok {v : V} {ys : List AV} {fr : Bool} {lev p : Int} (hv : Vc fr v ys) (hw : v.wf) (hl : 1 ≤ lev ∧ lev ≤ 9) (hp : 0 ≤ p ∧ p ≤ 512) :
    AC Tryz.prog 29 [] [.agg ys, .c (.int .i64 lev), .c (.int .i64 p)] (RetR (WalkR v lev p)) := rwalk_n _ hv hw hl hp (Nat.le_refl _)
def WR (v : V) (lev p d : Int) (bw : Nat) : Res → List Own → Prop := PanR ((v.chk lev p).1 = 0) (errV (v.chk lev p).1) fun x o => x = .tup [] ∧ o = [wk bw (v.chk lev p).2 (max d (lev + v.depth - 1))]
theorem walk_n  : ∀ (n : Nat) {v : V} {ys : List AV} {fr : Bool} {lev p d : Int} {bw : Nat}, Vc fr v ys → v.wf → 1 ≤ lev ∧ lev ≤ 9 → 0 ≤ p ∧ p ≤ 512 → v.sz ≤ n →
    AC Tryz.prog 37 [wk bw p d] [.c (.pointer (some ⟨bw, 0, none⟩)), .agg ys, .c (.int .i64 lev)] (WR v lev p d bw) := by
  intro n
  induction n with
  | zero => intro v ys fr lev p d bw hv hw hl hp h; exact absurd h (by have := V.sz_pos v; omega)
  | succ n ih =>
    intro v ys fr lev p d bw hv hw hl hp hn
    obtain ⟨k, b, t, ks, is⟩ := v
    subst hv
    obtain ⟨-, -, -, -, hi80, -, hwi⟩ := hw.inv
    have hi64 : is.length ≤ 9223372036854775806 := by unfold reach at hi80; omega
    refine AC.of_J Tryz.func37 rfl Tryz.ntmps37 rfl fun w0 A0 => ?_
    refine J.seq ?_
    refine J.region_lit ?_
    refine JL.box_agg (.tmp rfl) rfl fun b4 => ?_
    refine JL.nil ?_
    refine thenQ.n ?_
    refine J.seq ?_
    refine J.block ?_
    refine J.seq ?_
    refine J.region_lit ?_
    refine JL.q rfl rfl rfl (QW.move (.tmp rfl)) ?_
    refine JL.q rfl rfl rfl (QW.gtr (.tmp rfl) .const) ?_
    refine JL.q rfl rfl rfl (QW.assign (.tmp rfl)) ?_
    refine JL.nil ?_
    refine thenQ.n ?_
    refine J.cond (.tmp rfl) (fun c1 => ?_) (fun c1 => ?_)
    · skip
      simp at c1
      refine J.region_lit ?_
      refine JL.q rfl rfl rfl (QW.mkIface ⟨_, Tryz.underlying38, by intro ms h; cases h⟩ .const) ?_
      refine JL.panic (.tmp rfl) ?_
      refine blkQ.p ?_
      refine thenQ.p ?_
      exact ⟨_, selP [.k, .k] _, _, rfl, rfl, sel_perm [.k, .k] _, PanR.of (by simp [V.chk, c1]) (by decide)⟩
    simp at c1
    refine J.seq ?_
    refine J.region_lit ?_
    refine JL.q rfl rfl rfl (QW.move (.tmp rfl)) ?_
    refine JL.q rfl rfl rfl (QW.nil_ptr (.tmp rfl)) ?_
    refine JL.q rfl rfl rfl (QW.field_ptr fo76_0 (.tmp rfl) rfl) ?_
    refine JL.q rfl rfl rfl (QW.load_box1 1 ty3 (.tmp rfl) rfl rfl) ?_
    refine JL.q rfl rfl rfl (QW.eql (.tmp rfl) .const) ?_
    refine JL.q rfl rfl rfl (QW.assign (.tmp rfl)) ?_
    refine JL.nil ?_
    refine thenQ.n ?_
    refine J.cond (.tmp rfl) (fun c2 => ?_) (fun c2 => ?_)
    · skip
      simp at c2
      refine J.region_lit ?_
      refine JL.q rfl rfl rfl (QW.mkIface ⟨_, Tryz.underlying38, by intro ms h; cases h⟩ .const) ?_
      refine JL.panic (.tmp rfl) ?_
      refine blkQ.p ?_
      refine thenQ.p ?_
      exact ⟨_, selP [.k, .k] _, _, rfl, rfl, sel_perm [.k, .k] _, PanR.of (by simp [V.chk, show ¬ 8 < lev by omega, show 512 ≤ p by omega]) (by decide)⟩
    simp at c2
    refine J.seq ?_
    refine J.region_lit ?_
    refine JL.q rfl rfl rfl (by first | exact QW.load_box 0 ty29 (.tmp rfl) rfl rfl rfl | exact QW.load_box 0 ty29 (.tmp rfl) rfl (take_at (V.cs_length _ _) rfl) (V.cs_length _ _)) ?_
    refine JL.q rfl rfl rfl (QW.call gofn59 (.cons (.tmp rfl) .nil) (part_ok Vc.mk hw)) ?_
    refine JL.q rfl rfl rfl (QW.not (.tmp rfl)) ?_
    refine JL.q rfl rfl rfl (QW.assign (.tmp rfl)) ?_
    refine JL.nil ?_
    refine thenQ.n ?_
    refine J.cond (.tmp rfl) (fun c3 => ?_) (fun c3 => ?_)
    · skip
      simp at c3
      refine J.region_lit ?_
      refine JL.q rfl rfl rfl (QW.mkIface ⟨_, Tryz.underlying38, by intro ms h; cases h⟩ .const) ?_
      refine JL.panic (.tmp rfl) ?_
      refine blkQ.p ?_
      refine thenQ.p ?_
      exact ⟨_, selP [.k, .k] _, _, rfl, rfl, sel_perm [.k, .k] _, PanR.of (by simp [V.chk, show ¬ 8 < lev by omega, show ¬ 512 ≤ p by omega, c3]) (by decide)⟩
    simp at c3
    refine J.skip ?_
    refine blkQ.n ?_
    refine thenQ.n ?_
    refine J.seq ?_
    refine J.region_lit ?_
    refine JL.q rfl rfl rfl (QW.move (.tmp rfl)) ?_
    refine JL.q rfl rfl rfl (QW.nil_ptr (.tmp rfl)) ?_
    refine JL.q rfl rfl rfl (QW.field_ptr fo76_0 (.tmp rfl) rfl) ?_
    refine JL.q rfl rfl rfl (QW.load_box1 1 ty3 (.tmp rfl) rfl rfl) ?_
    refine JL.q rfl rfl rfl (QW.add (.tmp rfl) .const (by first | exact w64n (by first | rfl | omega | (simp; done)) (by omega) | exact w64 (by omega) | rfl)) ?_
    refine JL.q rfl rfl rfl (QW.nil_ptr (.tmp rfl)) ?_
    refine JL.q rfl rfl rfl (QW.field_ptr fo76_0 (.tmp rfl) rfl) ?_
    refine JL.store_box 1 ty3 (.tmp rfl) rfl (.tmp rfl) (by first | rfl | assumption) rfl rfl rfl rfl ?_
    refine JL.nil ?_
    refine thenQ.n ?_
    refine J.seq ?_
    refine J.region_lit ?_
    refine JL.q rfl rfl rfl (QW.move (.tmp rfl)) ?_
    refine JL.q rfl rfl rfl (QW.move (.tmp rfl)) ?_
    refine JL.q rfl rfl rfl (QW.nil_ptr (.tmp rfl)) ?_
    refine JL.q rfl rfl rfl (QW.field_ptr fo76_1 (.tmp rfl) rfl) ?_
    refine JL.q rfl rfl rfl (QW.load_box1 1 ty3 (.tmp rfl) rfl rfl) ?_
    refine JL.q rfl rfl rfl (QW.move (.tmp rfl)) ?_
    refine JL.q rfl rfl rfl (QW.max2 (.tmp rfl) (.tmp rfl)) ?_
    refine JL.q rfl rfl rfl (QW.nil_ptr (.tmp rfl)) ?_
    refine JL.q rfl rfl rfl (QW.field_ptr fo76_1 (.tmp rfl) rfl) ?_
    refine JL.store_box 1 ty3 (.tmp rfl) rfl (.tmp rfl) (by first | rfl | assumption) rfl rfl rfl rfl ?_
    refine JL.nil ?_
    refine thenQ.n ?_
    refine J.seq ?_
    refine J.region_lit ?_
    refine JL.q rfl rfl rfl (QW.field_ptr fo29_4 (.tmp rfl) rfl) ?_
    refine JL.q rfl rfl rfl (QW.load_box1 0 ty27 (.tmp rfl) rfl rfl) ?_
    refine JL.q rfl rfl rfl (by first | exact QW.len_sl sl27 (.tmp rfl) | exact QW.len_nil sl27 (.tmp rfl)) ?_
    refine JL.q rfl rfl rfl (QW.move .const) ?_
    refine JL.nil ?_
    refine thenQ.n ?_
    refine J.block ?_
    have hck : V.chk (.mk k b t ks is) lev p = V.chks is lev (p + 1) := by unfold V.chk; rw [if_neg (by omega), if_neg (by omega), if_neg (by simp [c3])]
    refine J.loopK (ι := Nat × Int × Int) [0, 2, 41, 42] (fun ⟨j, q, e⟩ => [(43, .c (.int .i64 (j : Int)))]) (fun ⟨j, q, e⟩ oo => List.set oo 1 (wk bw q e)) (fun ⟨j, q, e⟩ => j ≤ is.length ∧ V.chks is lev (p + 1) = V.chks (is.drop j) lev q ∧ max e (lev + V.depths (is.drop j)) = max d (lev + V.depths is) ∧ (0 ≤ q ∧ q ≤ 512 ∧ lev ≤ e)) (fun ⟨j, q, e⟩ => is.length - j) ⟨0, p + 1, if lev > d then lev else d⟩ (⟨Nat.zero_le _, rfl, by have := V.depths_nonneg is; rw [List.drop_zero]; split <;> omega, by split <;> omega⟩) (Wk.re (.cons rfl (.refl _) (.cons rfl (.refl _) (.cons rfl (.refl _) (.cons rfl (.refl _) (.cons rfl (.refl _) .nil))))) (Reown.refl _) (fun _ h => by first | exact h | simp [h])) ?_
    intro ⟨j, q, e⟩ ⟨hj, hcs, hde, hq⟩
    refine J.conv (by (try simp only [id_eq, stepsO, List.map_cons, List.map_nil, valO, nthO, curO, mrg, List.reverse_cons, List.reverse_nil, List.nil_append, List.cons_append, List.append_nil, List.getElem?_cons_zero, List.getElem?_cons_succ, Option.map_some, Option.getD_some, List.set_cons_zero, List.set_cons_succ, AV.cellsOf, splice_zero, splice_succ, Nat.zero_add, Nat.reduceAdd]); rfl) ?_
    refine J.seq ?_
    refine J.region_lit ?_
    refine JL.q rfl rfl rfl (QW.lss (.tmp rfl) (.tmp rfl)) ?_
    refine JL.nil ?_
    refine thenQ.n ?_
    refine J.seq ?_
    refine J.cond (.tmp rfl) (fun c4 => ?_) (fun c4 => ?_)
    · skip
      have hlt : j < is.length := by simpa [V.css_length] using c4
      refine J.skip ?_
      refine thenQ.n ?_
      refine J.seq ?_
      refine J.block ?_
      refine J.seq ?_
      refine J.region_lit ?_
      refine JL.q rfl rfl rfl (QW.index_sl sl27 ty29 rfl (.tmp rfl) (.tmp rfl) (by first | rfl | omega | (simp; done)) (by exact V.css_getE _ hlt)) ?_
      refine JL.q rfl rfl rfl (by first | exact QW.load_ref ty29 (.tmp rfl) rfl rfl | exact QW.load_ref ty29 (.tmp rfl) (take_at0 (V.cs_length _ _) rfl) (V.cs_length _ _)) ?_
      refine JL.alloc z29 rfl rfl fun b7 => ?_
      first | refine JL.store_boxF 0 ty29 (.tmp rfl) rfl (.tmp rfl) (by first | rfl | assumption) (by first | rfl | exact V.cs_length _ _) (by first | rfl | exact V.cs_length _ _) rfl ?_ | refine JL.store_box 0 ty29 (.tmp rfl) rfl (.tmp rfl) (by first | rfl | assumption) (by first | rfl | exact V.cs_length _ _) rfl rfl rfl ?_
      refine JL.nil ?_
      refine thenQ.n ?_
      refine J.region_lit ?_
      refine JL.q rfl rfl rfl (QW.move (.tmp rfl)) ?_
      refine JL.q rfl rfl rfl (by first | exact QW.load_box 0 ty29 (.tmp rfl) rfl rfl rfl | exact QW.load_box 0 ty29 (.tmp rfl) rfl (take_at (V.cs_length _ _) rfl) (V.cs_length _ _)) ?_
      refine JL.q rfl rfl rfl (QW.move (.tmp rfl)) ?_
      refine JL.q rfl rfl rfl (QW.add (.tmp rfl) .const (by first | exact w64n (by first | rfl | omega | (simp; done)) (by omega) | exact w64 (by omega) | rfl)) ?_
      refine JL.callPF [.k, .k, .p] gofn37 rfl Lent.nil (fun _ => (.cons (.tmp rfl) (.cons (.tmp rfl) (.cons (.tmp rfl) .nil)))) (ih (by first | exact Vc.self | exact Vc.mk) (hwi _ (List.getElem_mem _)) (by omega) (by omega) (V.sz_get hn hlt)) (.inl rfl) (fun k51 x51 o51 h51 => ?_) (fun k51 => ?_)
      rotate_left
      · skip
        refine blkQ.p ?_
        refine thenQ.p ?_
        refine thenQ.p ?_
        refine blkQ.p ?_
        rw [V.chks_cons hlt, if_pos k51] at hcs
        have he := hck.trans hcs
        exact ⟨_, selP [.k, .k] _, _, rfl, rfl, sel_perm [.k, .k] _, PanR.of (by rw [he]) k51⟩
      obtain ⟨rfl, rfl⟩ := h51
      refine JL.nil ?_
      refine blkQ.n ?_
      refine thenQ.n ?_
      refine J.region_lit ?_
      refine JL.q rfl rfl rfl (QW.add (.tmp rfl) .const (by first | exact w64n (by first | rfl | omega | (simp; done)) (by omega) | exact w64 (by omega) | rfl)) ?_
      refine JL.q rfl rfl rfl (QW.move (.tmp rfl)) ?_
      refine JL.nil ?_
      refine thenQ.n ?_
      have hb := V.chk_bounds is[j] (lev + 1) q
      rw [V.chks_cons hlt, if_neg (by simp [k51])] at hcs
      rw [V.depths_cons hlt] at hde
      exact ⟨⟨j + 1, (V.chk is[j] (lev + 1) q).2, max e (lev + 1 + is[j].depth - 1)⟩, ⟨hlt, hcs, by omega, by omega⟩, by show is.length - (j + 1) < is.length - j; omega, Wk.re (.cons rfl (.refl _) (.cons rfl (.refl _) (.cons rfl (.refl _) (.cons rfl (.refl _) (.cons rfl (.refl _) .nil))))) (Reown.dropN 1 _ rfl) (fun _ h => by first | exact h | simp [h])⟩
    have hge : is.length ≤ j := by simpa [V.css_length] using c4
    refine J.exit ?_
    refine thenQ.x ?_
    refine thenQ.x ?_
    refine blkQ.hit ?_
    obtain rfl : j = is.length := by omega
    simp only [List.drop_length, V.chks, V.depths] at hcs hde
    have he := hck.trans hcs
    exact ⟨_, selP [.k, .p] _, _, RetEv.none rfl , rfl, sel_perm [.k, .p] _, PanR.ret (by rw [he]) ⟨rfl, by rw [he]; unfold V.depth; rw [show max d (lev + (1 + V.depths is) - 1) = e by omega]; rfl⟩⟩
end Go.Proofs.YtjhonjdhanlbkaaGreat.J

/- Walks: sizes and checks of values. -/
namespace Go.Proofs.YtjhonjdhanlbkaaGreat.J
open Go Go.RowKit
set_option maxRecDepth 10000
set_option maxHeartbeats 4000000
theorem size1_ret (a b c : Nat) (x y z : Int) : DC Tryz.prog 36 [ibox c z, ibox b y, ibox a x] [.c (.pointer (some ⟨a, 0, none⟩)), .c (.pointer (some ⟨b, 0, none⟩)), .c (.pointer (some ⟨c, 0, none⟩))] .returning fun r u' o => r = .ret (.tup []) ∧ u' = .returning ∧ o = [ibox c z, ibox b y, ibox a x] := by
  refine DC.of_JD Tryz.func36 rfl Tryz.ntmps36 rfl fun w0 A0 => ?_
  refine JD.seq ?_
  refine JD.region_recover rfl rfl (.inl ⟨rfl, rfl, rfl⟩) rfl ?_
  refine JL.q rfl rfl rfl (QW.assert_nil ⟨_, Tryz.underlying38, by intro ms h; cases h⟩ zeroErrno (.tmp rfl)) ?_
  refine JL.q rfl rfl rfl (QW.move (.tmp rfl)) ?_
  refine JL.q rfl rfl rfl (QW.extract (.tmp rfl) rfl) ?_
  refine JL.q rfl rfl rfl (QW.extract (.tmp rfl) rfl) ?_
  refine JL.q rfl rfl rfl (QW.assign (.tmp rfl)) ?_
  refine JL.q rfl rfl rfl (QW.assign (.tmp rfl)) ?_
  refine JL.nil ?_
  refine thenD.nn ?_
  refine JD.of_J rfl ?_
  refine J.seq ?_
  refine J.region_lit ?_
  refine JL.q rfl rfl rfl (QW.move (.tmp rfl)) ?_
  refine JL.nil ?_
  refine thenQ.n ?_
  refine J.cond (.tmp rfl) (fun c1 => absurd c1 (by simp)) (fun c1 => ?_)
  refine J.skip ?_
  exact ⟨_, selP [.p, .p, .p] _, _, RetEv.none rfl , rfl, sel_perm [.p, .p, .p] _, ⟨rfl, rfl, rfl⟩⟩
theorem size1_pan (a b c : Nat) (x y z e : Int) : DC Tryz.prog 36 [ibox c z, ibox b y, ibox a x] [.c (.pointer (some ⟨a, 0, none⟩)), .c (.pointer (some ⟨b, 0, none⟩)), .c (.pointer (some ⟨c, 0, none⟩))] (.panicking [{ v := errV e, recovered := false }]) fun r u' o => r = .ret (.tup []) ∧ u' = .panicking [{ v := errV e, recovered := true }] ∧ o = [ibox c e, ibox b 0, ibox a 0] := by
  refine DC.of_JD Tryz.func36 rfl Tryz.ntmps36 rfl fun w0 A0 => ?_
  refine JD.seq ?_
  refine JD.region_recover rfl rfl (.inr ⟨[], rfl, rfl⟩) rfl ?_
  refine JL.q rfl rfl rfl (QW.assert_hit ⟨_, Tryz.underlying38, by intro ms h; cases h⟩ (.tmp rfl)) ?_
  refine JL.q rfl rfl rfl (QW.move (.tmp rfl)) ?_
  refine JL.q rfl rfl rfl (QW.extract (.tmp rfl) rfl) ?_
  refine JL.q rfl rfl rfl (QW.extract (.tmp rfl) rfl) ?_
  refine JL.q rfl rfl rfl (QW.assign (.tmp rfl)) ?_
  refine JL.q rfl rfl rfl (QW.assign (.tmp rfl)) ?_
  refine JL.nil ?_
  refine thenD.nn ?_
  refine JD.of_J rfl ?_
  refine J.seq ?_
  refine J.region_lit ?_
  refine JL.q rfl rfl rfl (QW.move (.tmp rfl)) ?_
  refine JL.nil ?_
  refine thenQ.n ?_
  refine J.cond (.tmp rfl) (fun c1 => ?_) (fun c1 => absurd c1 (by simp))
  refine J.region_lit ?_
  refine JL.q rfl rfl rfl (QW.move (.tmp rfl)) ?_
  refine JL.store_box 2 ty3 (.tmp rfl) rfl .const (by first | rfl | assumption) rfl rfl rfl rfl ?_
  refine JL.store_box 1 ty3 (.tmp rfl) rfl .const (by first | rfl | assumption) rfl rfl rfl rfl ?_
  refine JL.store_box 0 ty38 (.tmp rfl) rfl (.tmp rfl) (by first | rfl | assumption) rfl rfl rfl rfl ?_
  refine JL.nil ?_
  exact ⟨_, selP [.p, .p, .p] _, _, RetEv.none rfl , rfl, sel_perm [.p, .p, .p] _, ⟨rfl, rfl, rfl⟩⟩
def sizeAV (v : V) : AV := .tup [.c (.int .i64 (if v.err = 0 then v.cnt else 0)), .c (.int .i64 (if v.err = 0 then v.depth else 0)), .c (.int .i64 v.err)]
theorem sizeAV_ok {v : V} {n d : Int} (h : v.err = 0) (hn : n = v.cnt) (hd : d = v.depth) : sizeAV v = .tup [.c (.int .i64 n), .c (.int .i64 d), .c (.int .i64 0)] := by
  subst hn hd; simp [sizeAV, h]
theorem sizeAV_no {v : V} {e : Int} (h : ¬ v.err = 0) (he : e = v.err) : sizeAV v = .tup [.c (.int .i64 0), .c (.int .i64 0), .c (.int .i64 e)] := by
  subst he; simp [sizeAV, h]
theorem size_ok {fr : Bool} {v : V} {ys : List AV} (hv : Vc fr v ys) (hw : v.wf) : Fn Tryz.prog 27 [.agg ys] (sizeAV v) := by
  subst hv
  refine AC.of_JD Tryz.func27 rfl Tryz.ntmps27 rfl fun w0 A0 => ?_
  refine J.seq ?_
  refine J.region_lit ?_
  refine JL.box_agg (.tmp rfl) rfl fun b1 => ?_
  refine JL.alloc z3 rfl rfl fun b2 => ?_
  refine JL.alloc z3 rfl rfl fun b3 => ?_
  refine JL.alloc z38 rfl rfl fun b4 => ?_
  refine JL.nil ?_
  refine thenQ.n ?_
  refine J.seq ?_
  refine J.region_lit ?_
  refine JL.q rfl rfl rfl (QW.mkFunc .nil (.cons (.tmp rfl) (.cons (.tmp rfl) (.cons (.tmp rfl) .nil)))) ?_
  refine JL.defer rfl (.tmp rfl) ?_
  refine JL.nil ?_
  refine thenQ.n ?_
  refine J.seq ?_
  refine J.region_lit ?_
  refine JL.alloc z76 rfl rfl fun b5 => ?_
  refine JL.nil ?_
  refine thenQ.n ?_
  refine J.seq ?_
  refine J.region_lit ?_
  refine JL.q rfl rfl rfl (by first | exact QW.load_box 4 ty29 (.tmp rfl) rfl rfl rfl | exact QW.load_box 4 ty29 (.tmp rfl) rfl (take_at (V.cs_length _ _) rfl) (V.cs_length _ _)) ?_
  refine JL.callPF [.p] gofn37 rfl Lent.nil (fun _ => (.cons (.tmp rfl) (.cons (.tmp rfl) (.cons .const .nil)))) (walk_n _ Vc.self hw (by omega) (by omega) (Nat.le_refl _)) (.inl rfl) (fun k8 x8 o8 h8 => ?_) (fun k8 => ?_)
  rotate_left
  · skip
    refine thenQ.p ?_
    exact ⟨_, _, [], [_, _, _], selP [.p, .p, .p] _, _, rfl, rfl, gofn36, sel_perm [.p, .p, .p] _, DC.mono (size1_pan _ _ _ _ _ _ _) fun r u' o ⟨h1, h2, h3⟩ => by subst h1 h2 h3; exact ⟨⟨_, rfl⟩, rfl, _, [], _, RetEv.three rfl (REv.cell1 2 ty3 rfl rfl rfl (.refl _)) (REv.cell1 1 ty3 rfl rfl rfl (.refl _)) (REv.cell1 0 ty38 rfl rfl rfl (.refl _)), List.Perm.refl _, (congrArg Res.ret (sizeAV_no k8 rfl)).symm, rfl⟩⟩
  obtain ⟨rfl, rfl⟩ := h8
  refine JL.nil ?_
  refine thenQ.n ?_
  refine J.seq ?_
  refine J.region_outK 5 1 (fun os_ ow_ x_ o_ => match os_ with | [] => (x_ = .c undef ∧ o_ = ow_.set 3 (ibox b2 (v.chk 1 0).2)) | _ => False) mixed (by kernel_rfl) (by kernel_rfl) (by kernel_rfl) rfl ?_
  refine OutK.quiet [] rfl rfl rfl (fun qs_ qv_ ql_ => (.q rfl (QW.field_ptr fo76_0 (.tmp rfl) rfl))) ?_
  refine OutK.quiet [9] rfl rfl rfl (fun qs_ qv_ ql_ => by
      rcases qs_ with _ | ⟨⟨y0, p0⟩, qs_⟩
      · skip
        exact (.q rfl (QW.load_box1 0 ty3 (.tmp rfl) rfl rfl))
      rcases qs_ with _ | ⟨⟨y1, p1⟩, qs_⟩
      · skip
        obtain ⟨hr0, _⟩ := qv_
        obtain ⟨rfl, rfl⟩ := hr0
        exact (.q rfl (QW.load_box1 0 ty3 (.tmp rfl) rfl rfl))
      exact absurd ql_ (by simp)) ?_
  refine OutK.quiet [] rfl rfl rfl (fun qs_ qv_ ql_ => (.q rfl (QW.field_ptr fo76_1 (.tmp rfl) rfl))) ?_
  refine OutK.quiet [11] rfl rfl rfl (fun qs_ qv_ ql_ => by
      rcases qs_ with _ | ⟨⟨y0, p0⟩, qs_⟩
      · skip
        exact (.q rfl (QW.load_box1 0 ty3 (.tmp rfl) rfl rfl))
      rcases qs_ with _ | ⟨⟨y1, p1⟩, qs_⟩
      · skip
        obtain ⟨hr0, _⟩ := qv_
        obtain ⟨rfl, rfl⟩ := hr0
        exact (.q rfl (QW.load_box1 0 ty3 (.tmp rfl) rfl rfl))
      exact absurd ql_ (by simp)) ?_
  refine OutK.store [10] rfl (fun qs_ ow x o h ql_ => by
      obtain rfl : qs_ = [] := List.length_eq_zero_iff.1 (by simpa using ql_)
      exact h.1) rfl rfl rfl (fun qs_ qv_ ql_ => by
      obtain rfl : qs_ = [] := List.length_eq_zero_iff.1 ql_
      exact LStep.toR rfl (LStep.store_box 3 ty3 (.tmp rfl) rfl (.tmp rfl) (by first | rfl | assumption) rfl rfl rfl rfl) ⟨rfl, rfl⟩) ?_
  refine .nil fun qs_ qv_ ql_ => ?_
  obtain ⟨⟨y0, p0⟩, qs_, rfl⟩ : ∃ p t, qs_ = p :: t := by (cases qs_ with | nil => simp at ql_ | cons p t => exact ⟨p, t, rfl⟩)
  obtain rfl : qs_ = [] := List.length_eq_zero_iff.1 (by simpa using ql_)
  obtain ⟨hr0, _⟩ := qv_
  obtain ⟨rfl, rfl⟩ := hr0
  refine JL.conv (by (try simp only [id_eq, stepsO, List.map_cons, List.map_nil, valO, nthO, curO, mrg, List.reverse_cons, List.reverse_nil, List.nil_append, List.cons_append, List.append_nil, List.getElem?_cons_zero, List.getElem?_cons_succ, Option.map_some, Option.getD_some, List.set_cons_zero, List.set_cons_succ, AV.cellsOf, splice_zero, splice_succ, Nat.zero_add, Nat.reduceAdd]); rfl) ?_
  refine JL.store_box 2 ty3 (.tmp rfl) rfl (.tmp rfl) (by first | rfl | assumption) rfl rfl rfl rfl ?_
  refine JL.store_box 1 ty38 (.tmp rfl) rfl .const (by first | rfl | assumption) rfl rfl rfl rfl ?_
  refine JL.nil ?_
  refine thenQ.n ?_
  refine J.ret ?_
  exact ⟨_, _, [], [_, _, _], selP [.k, .p, .p, .p] _, _, rfl, rfl, gofn36, sel_perm [.k, .p, .p, .p] _, DC.mono (size1_ret _ _ _ _ _ _) fun r u' o ⟨h1, h2, h3⟩ => by subst h1 h2 h3; exact ⟨⟨_, rfl⟩, rfl, _, [], _, RetEv.three rfl (REv.cell1 2 ty3 rfl rfl rfl (.refl _)) (REv.cell1 1 ty3 rfl rfl rfl (.refl _)) (REv.cell1 0 ty38 rfl rfl rfl (.refl _)), List.Perm.refl _, (congrArg Res.ret (sizeAV_ok k8 rfl (by have := V.chk_depth v 1 0 k8; omega))).symm, rfl⟩⟩
theorem check_ok {fr : Bool} {v : V} {ys : List AV} (hv : Vc fr v ys) (hw : v.wf) : Fn Tryz.prog 18 [.agg ys] (.c (.int .i64 v.err)) := by
  subst hv
  refine AC.of_J Tryz.func18 rfl Tryz.ntmps18 rfl fun w0 A0 => ?_
  refine J.seq ?_
  refine J.region_lit ?_
  refine JL.box_agg (.tmp rfl) rfl fun b1 => ?_
  refine JL.q rfl rfl rfl (QW.assign .const) ?_
  refine JL.nil ?_
  refine thenQ.n ?_
  refine J.seq ?_
  refine J.region_lit ?_
  refine JL.q rfl rfl rfl (by first | exact QW.load_box 0 ty29 (.tmp rfl) rfl rfl rfl | exact QW.load_box 0 ty29 (.tmp rfl) rfl (take_at (V.cs_length _ _) rfl) (V.cs_length _ _)) ?_
  refine JL.q rfl rfl rfl (QW.call gofn27 (.cons (.tmp rfl) .nil) (size_ok (by first | exact Vc.self | exact Vc.mk) (by assumption))) ?_
  refine JL.q rfl rfl rfl (QW.move (.tmp rfl)) ?_
  refine JL.q rfl rfl rfl (QW.extract (.tmp rfl) rfl) ?_
  refine JL.q rfl rfl rfl (QW.extract (.tmp rfl) rfl) ?_
  refine JL.q rfl rfl rfl (QW.extract (.tmp rfl) rfl) ?_
  refine JL.q rfl rfl rfl (QW.assign (.tmp rfl)) ?_
  refine JL.q rfl rfl rfl (QW.assign (.tmp rfl)) ?_
  refine JL.q rfl rfl rfl (QW.assign (.tmp rfl)) ?_
  refine JL.nil ?_
  refine thenQ.n ?_
  refine J.seq ?_
  refine J.region_lit ?_
  refine JL.q rfl rfl rfl (QW.move (.tmp rfl)) ?_
  refine JL.q rfl rfl rfl (QW.assign (.tmp rfl)) ?_
  refine JL.nil ?_
  refine thenQ.n ?_
  refine J.ret ?_
  exact ⟨_, selP [.k] _, _, RetEv.one rfl (REv.tmp rfl (.refl _)), rfl, sel_perm [.k] _, ⟨rfl, rfl⟩⟩
theorem rcheck_ok {fr : Bool} {v : V} {ys : List AV} (hv : Vc fr v ys) (hw : v.wf) : Fn Tryz.prog 20 [.agg ys] (.c (.int .i64 v.err)) := by
  subst hv
  refine AC.of_J Tryz.func20 rfl Tryz.ntmps20 rfl fun w0 A0 => ?_
  refine J.seq ?_
  refine J.region_lit ?_
  refine JL.box_agg (.tmp rfl) rfl fun b1 => ?_
  refine JL.q rfl rfl rfl (QW.assign .const) ?_
  refine JL.nil ?_
  refine thenQ.n ?_
  refine J.seq ?_
  refine J.region_lit ?_
  refine JL.q rfl rfl rfl (by first | exact QW.load_box 0 ty29 (.tmp rfl) rfl rfl rfl | exact QW.load_box 0 ty29 (.tmp rfl) rfl (take_at (V.cs_length _ _) rfl) (V.cs_length _ _)) ?_
  refine JL.callRF [] gofn29 rfl Lent.nil (fun _ => (.cons (.tmp rfl) (.cons .const (.cons .const .nil)))) (rwalk_ok Vc.self hw (by omega) (by omega)) (.inl rfl) fun x8 o8 h8 => ?_
  obtain ⟨rfl, p8, d8, rfl, hp8⟩ := h8
  refine JL.q rfl rfl rfl (QW.move (.tmp rfl)) ?_
  refine JL.q rfl rfl rfl (QW.extract (.tmp rfl) rfl) ?_
  refine JL.q rfl rfl rfl (QW.extract (.tmp rfl) rfl) ?_
  refine JL.q rfl rfl rfl (QW.extract (.tmp rfl) rfl) ?_
  refine JL.q rfl rfl rfl (QW.assign (.tmp rfl)) ?_
  refine JL.q rfl rfl rfl (QW.assign (.tmp rfl)) ?_
  refine JL.q rfl rfl rfl (QW.assign (.tmp rfl)) ?_
  refine JL.nil ?_
  refine thenQ.n ?_
  refine J.seq ?_
  refine J.region_lit ?_
  refine JL.q rfl rfl rfl (QW.move (.tmp rfl)) ?_
  refine JL.q rfl rfl rfl (QW.assign (.tmp rfl)) ?_
  refine JL.nil ?_
  refine thenQ.n ?_
  refine J.ret ?_
  exact ⟨_, selP [.k] _, _, RetEv.one rfl (REv.tmp rfl (.refl _)), rfl, sel_perm [.k] _, ⟨rfl, rfl⟩⟩
end Go.Proofs.YtjhonjdhanlbkaaGreat.J

/- Walks: what the statements share: are two things one; copies of values. -/
namespace Go.Proofs.YtjhonjdhanlbkaaGreat.J
open Go Go.RowKit
set_option maxRecDepth 10000
set_option maxHeartbeats 4000000
theorem list_split {α : Type} [BEq α] [LawfulBEq α] {a b : List α} (hl : a.length = b.length) {k : Nat} (h : a.take k = b.take k) (ha : k < a.length) : (a.take (k + 1) = b.take (k + 1)) ↔ a[k] = b[k]'(hl ▸ ha) := by
  have hb : k < b.length := by omega
  rw [List.take_succ_eq_append_getElem (l := a) ha, List.take_succ_eq_append_getElem (l := b) hb, h, List.append_right_inj]
  simp
theorem sameStrings_ok {fr fr2 : Bool} (a b : List Str) (ha : a.length ≤ 9223372036854775806) (hb : b.length ≤ 9223372036854775806) : Fn Tryz.prog 26 [.sl fr false eStr (keysAV a), .sl fr2 false eStr (keysAV b)] (.c (.bool (a == b))) := by
  refine AC.of_J Tryz.func26 rfl Tryz.ntmps26 rfl fun w0 A0 => ?_
  refine J.seq ?_
  refine J.region_lit ?_
  refine JL.q rfl rfl rfl (QW.assign .const) ?_
  refine JL.nil ?_
  refine thenQ.n ?_
  refine J.seq ?_
  refine J.seq ?_
  refine J.region_lit ?_
  refine JL.q rfl rfl rfl (QW.move (.tmp rfl)) ?_
  refine JL.q rfl rfl rfl (by first | exact QW.len_sl sl26 (.tmp rfl) | exact QW.len_nil sl26 (.tmp rfl)) ?_
  refine JL.q rfl rfl rfl (QW.move (.tmp rfl)) ?_
  refine JL.q rfl rfl rfl (by first | exact QW.len_sl sl26 (.tmp rfl) | exact QW.len_nil sl26 (.tmp rfl)) ?_
  refine JL.q rfl rfl rfl (QW.neq (.tmp rfl) (.tmp rfl)) ?_
  refine JL.nil ?_
  refine thenQ.n ?_
  refine J.cond (.tmp rfl) (fun c1 => ?_) (fun c1 => ?_)
  · skip
    simp [keysAV_length] at c1
    refine J.seq ?_
    refine J.region_lit ?_
    refine JL.q rfl rfl rfl (QW.assign .const) ?_
    refine JL.nil ?_
    refine thenQ.n ?_
    refine J.ret ?_
    refine thenQ.r ?_
    exact ⟨_, selP [] _, _, RetEv.one rfl (REv.tmp rfl (.refl _)), rfl, sel_perm [] _, ⟨ret_b (by simp; intro e; subst e; exact c1 rfl), rfl⟩⟩
  have hl : a.length = b.length := by simp [keysAV_length] at c1; omega
  refine J.skip ?_
  refine thenQ.n ?_
  refine J.seq ?_
  refine J.seq ?_
  refine J.region_lit ?_
  refine JL.q rfl rfl rfl (QW.assign .const) ?_
  refine JL.nil ?_
  refine thenQ.n ?_
  refine J.block ?_
  refine J.loopK (ι := Nat) [0, 1] (fun k => [(5, .c (.int .i64 (k : Int)))]) (fun _ oo => oo) (fun k => k ≤ a.length ∧ a.take k = b.take k) (fun k => a.length - k) 0 (⟨Nat.zero_le _, rfl⟩) (Wk.re (.cons rfl (.refl _) (.cons rfl (.refl _) (.cons rfl (.refl _) .nil))) (Reown.refl _) (fun _ h => by first | exact h | simp [h])) ?_
  intro k ⟨hk, heqs⟩
  refine J.conv (by (try simp only [id_eq, stepsO, List.map_cons, List.map_nil, valO, nthO, curO, mrg, List.reverse_cons, List.reverse_nil, List.nil_append, List.cons_append, List.append_nil, List.getElem?_cons_zero, List.getElem?_cons_succ, Option.map_some, Option.getD_some, List.set_cons_zero, List.set_cons_succ, AV.cellsOf, splice_zero, splice_succ, Nat.zero_add, Nat.reduceAdd]); rfl) ?_
  refine J.seq ?_
  refine J.seq ?_
  refine J.region_lit ?_
  refine JL.q rfl rfl rfl (QW.move (.tmp rfl)) ?_
  refine JL.q rfl rfl rfl (QW.move (.tmp rfl)) ?_
  refine JL.q rfl rfl rfl (by first | exact QW.len_sl sl26 (.tmp rfl) | exact QW.len_nil sl26 (.tmp rfl)) ?_
  refine JL.q rfl rfl rfl (QW.lss (.tmp rfl) (.tmp rfl)) ?_
  refine JL.nil ?_
  refine thenQ.n ?_
  refine J.cond (.tmp rfl) (fun c2 => ?_) (fun c2 => ?_)
  · skip
    have hlt : k < a.length := by simpa [keysAV_length] using c2
    refine J.skip ?_
    refine thenQ.n ?_
    refine J.seq ?_
    refine J.block ?_
    refine J.seq ?_
    refine J.region_tailK 8 mixed (by kernel_rfl) (by kernel_rfl) (by kernel_rfl) rfl ?_
    refine .cons [] rfl rfl rfl (.q rfl (QW.move (.tmp rfl))) ?_
    refine .cons [] rfl rfl rfl (.q rfl (QW.move (.tmp rfl))) ?_
    refine .cons [17, 18] rfl rfl rfl (.q rfl (QW.index_sl sl26 ty9 rfl (.tmp rfl) (.tmp rfl) (by first | rfl | omega | (simp; done)) (by exact keysAV_getE (by omega)))) ?_
    refine .cons [19] rfl rfl rfl (.q rfl (QW.load_ref1 ty9 (.tmp rfl) rfl)) ?_
    refine .cons [] rfl rfl rfl (.q rfl (QW.move (.tmp rfl))) ?_
    refine .cons [] rfl rfl rfl (.q rfl (QW.move (.tmp rfl))) ?_
    refine .cons [21, 22] rfl rfl rfl (.q rfl (QW.index_sl sl26 ty9 rfl (.tmp rfl) (.tmp rfl) (by first | rfl | omega | (simp; done)) (by exact keysAV_getE (by omega)))) ?_
    refine .cons [23] rfl rfl rfl (.q rfl (QW.load_ref1 ty9 (.tmp rfl) rfl)) ?_
    refine .nil ?_
    refine JL.q rfl rfl rfl (QW.neq_s (.tmp rfl) (.tmp rfl)) ?_
    refine JL.nil ?_
    refine thenQ.n ?_
    refine J.cond (.tmp rfl) (fun c3 => ?_) (fun c3 => ?_)
    · skip
      have hne : a[k] ≠ b[k] := by simpa using c3
      refine J.seq ?_
      refine J.region_lit ?_
      refine JL.q rfl rfl rfl (QW.assign .const) ?_
      refine JL.nil ?_
      refine thenQ.n ?_
      refine J.ret ?_
      refine blkQ.r ?_
      refine thenQ.r ?_
      refine thenQ.r ?_
      refine blkQ.r ?_
      refine thenQ.r ?_
      exact ⟨_, selP [] _, _, RetEv.one rfl (REv.tmp rfl (.refl _)), rfl, sel_perm [] _, ⟨ret_b (by simp; intro e; subst e; exact hne rfl), rfl⟩⟩
    have heq : a[k] = b[k] := by simpa using c3
    refine J.skip ?_
    refine blkQ.n ?_
    refine thenQ.n ?_
    refine J.region_lit ?_
    refine JL.q rfl rfl rfl (QW.move (.tmp rfl)) ?_
    refine JL.q rfl rfl rfl (QW.add (.tmp rfl) .const (by first | exact w64n (by first | rfl | omega | (simp; done)) (by omega) | exact w64 (by omega) | rfl)) ?_
    refine JL.q rfl rfl rfl (QW.assign (.tmp rfl)) ?_
    refine JL.nil ?_
    refine thenQ.n ?_
    exact ⟨k + 1, ⟨hlt, (list_split hl heqs hlt).2 heq⟩, by omega, Wk.re (.cons rfl (.refl _) (.cons rfl (.refl _) (.cons rfl (.refl _) .nil))) (Reown.refl _) (fun _ h => by first | exact h | simp [h])⟩
  have hge : a.length ≤ k := by simpa [keysAV_length] using c2
  refine J.exit ?_
  refine thenQ.x ?_
  refine thenQ.x ?_
  refine blkQ.hit ?_
  refine thenQ.n ?_
  refine J.seq ?_
  refine J.region_lit ?_
  refine JL.q rfl rfl rfl (QW.assign .const) ?_
  refine JL.nil ?_
  refine thenQ.n ?_
  refine J.ret ?_
  exact ⟨_, selP [] _, _, RetEv.one rfl (REv.tmp rfl (.refl _)), rfl, sel_perm [] _, ⟨ret_b (by simp; rw [List.take_of_length_le hge, List.take_of_length_le (by omega)] at heqs; exact heqs), rfl⟩⟩
theorem sames_drop {a b : List V} {k : Nat} (ha : k < a.length) (hb : k < b.length) : V.sames (a.drop k) (b.drop k) = (a[k].same b[k] && V.sames (a.drop (k + 1)) (b.drop (k + 1))) := by
  rw [List.drop_eq_getElem_cons ha, List.drop_eq_getElem_cons hb, V.sames]
theorem sames_len : ∀ {a b : List V}, V.sames a b = true → a.length = b.length
  | [], [], _ => rfl
  | x :: r, y :: s, h => by simp only [V.sames, Bool.and_eq_true] at h; simp [sames_len h.2]
  | [], _ :: _, h => by simp [V.sames] at h
  | _ :: _, [], h => by simp [V.sames] at h
theorem sameValue_n  : ∀ (n : Nat) {v u : V} {ys zs : List AV} {fr fr2 : Bool}, Vc fr v ys → Vc fr2 u zs → v.wf → u.wf → v.sz ≤ n →
    Fn Tryz.prog 13 [.agg ys, .agg zs] (.c (.bool (v.same u))) := by
  intro n
  induction n with
  | zero => intro v u ys zs fr fr2 hv hu hw hw2 h; exact absurd h (by have := V.sz_pos v; omega)
  | succ n ih =>
    intro v u ys zs fr fr2 hv hu hw hw2 hn
    obtain ⟨k, b, t, ks, is⟩ := v
    obtain ⟨k', b', t', ks', is'⟩ := u
    subst hv hu
    obtain ⟨-, -, -, hk16, hi80, -, hwi⟩ := hw.inv
    obtain ⟨-, -, -, hk16', hi80', -, hwi'⟩ := hw2.inv
    have h1 : is.length ≤ 9223372036854775806 := by unfold reach at hi80; omega
    have h2 : is'.length ≤ 9223372036854775806 := by unfold reach at hi80'; omega
    have h3 : ks.length ≤ 9223372036854775806 := by unfold reach at hk16; omega
    have h4 : ks'.length ≤ 9223372036854775806 := by unfold reach at hk16'; omega
    refine AC.of_J Tryz.func13 rfl Tryz.ntmps13 rfl fun w0 A0 => ?_
    refine J.seq ?_
    refine J.region_lit ?_
    refine JL.box_agg (.tmp rfl) rfl fun b2 => ?_
    refine JL.box_agg (.tmp rfl) rfl fun b3 => ?_
    refine JL.q rfl rfl rfl (QW.assign .const) ?_
    refine JL.nil ?_
    refine thenQ.n ?_
    refine J.seq ?_
    refine J.seq ?_
    refine J.region_lit ?_
    refine JL.q rfl rfl rfl (QW.field_ptr fo29_0 (.tmp rfl) rfl) ?_
    refine JL.q rfl rfl rfl (QW.load_box1 1 ty3 (.tmp rfl) rfl rfl) ?_
    refine JL.q rfl rfl rfl (QW.field_ptr fo29_0 (.tmp rfl) rfl) ?_
    refine JL.q rfl rfl rfl (QW.load_box1 0 ty3 (.tmp rfl) rfl rfl) ?_
    refine JL.q rfl rfl rfl (QW.neq (.tmp rfl) (.tmp rfl)) ?_
    refine JL.q rfl rfl rfl (QW.move (.tmp rfl)) ?_
    refine JL.g rfl rfl rfl rfl rfl (fun hg => (QW.field_ptr fo29_1 (.tmp rfl) rfl)) ?_
    refine JL.g rfl rfl rfl rfl rfl (fun hg => (QW.load_box1 1 ty22 (.when rfl hg) rfl rfl)) ?_
    refine JL.g rfl rfl rfl rfl rfl (fun hg => (QW.field_ptr fo29_1 (.tmp rfl) rfl)) ?_
    refine JL.g rfl rfl rfl rfl rfl (fun hg => (QW.load_box1 0 ty22 (.when rfl hg) rfl rfl)) ?_
    refine JL.g rfl rfl rfl rfl rfl (fun hg => (QW.neq (.when rfl hg) (.when rfl hg))) ?_
    refine JL.q rfl rfl rfl (QW.pick_or (.tmp rfl) (.tmp rfl)) ?_
    refine JL.q rfl rfl rfl (QW.move (.tmp rfl)) ?_
    refine JL.g rfl rfl rfl rfl rfl (fun hg => (QW.field_ptr fo29_2 (.tmp rfl) rfl)) ?_
    refine JL.g rfl rfl rfl rfl rfl (fun hg => (QW.load_box1 1 ty9 (.when rfl hg) rfl rfl)) ?_
    refine JL.g rfl rfl rfl rfl rfl (fun hg => (QW.field_ptr fo29_2 (.tmp rfl) rfl)) ?_
    refine JL.g rfl rfl rfl rfl rfl (fun hg => (QW.load_box1 0 ty9 (.when rfl hg) rfl rfl)) ?_
    refine JL.g rfl rfl rfl rfl rfl (fun hg => (QW.neq_s (.when rfl hg) (.when rfl hg))) ?_
    refine JL.q rfl rfl rfl (QW.pick_or (.tmp rfl) (.tmp rfl)) ?_
    refine JL.q rfl rfl rfl (QW.move (.tmp rfl)) ?_
    refine JL.g rfl rfl rfl rfl rfl (fun hg => (QW.field_ptr fo29_3 (.tmp rfl) rfl)) ?_
    refine JL.g rfl rfl rfl rfl rfl (fun hg => (QW.load_box1 1 ty26 (.when rfl hg) rfl rfl)) ?_
    refine JL.g rfl rfl rfl rfl rfl (fun hg => (QW.field_ptr fo29_3 (.tmp rfl) rfl)) ?_
    refine JL.g rfl rfl rfl rfl rfl (fun hg => (QW.load_box1 0 ty26 (.when rfl hg) rfl rfl)) ?_
    refine JL.g rfl rfl rfl rfl rfl (fun hg => (QW.call gofn26 (.cons (.when rfl hg) (.cons (.when rfl hg) .nil)) (sameStrings_ok _ _ h3 h4))) ?_
    refine JL.g rfl rfl rfl rfl rfl (fun hg => (QW.not (.when rfl hg))) ?_
    refine JL.q rfl rfl rfl (QW.pick_or (.tmp rfl) (.tmp rfl)) ?_
    refine JL.q rfl rfl rfl (QW.move (.tmp rfl)) ?_
    refine JL.g rfl rfl rfl rfl rfl (fun hg => (QW.field_ptr fo29_4 (.tmp rfl) rfl)) ?_
    refine JL.g rfl rfl rfl rfl rfl (fun hg => (QW.load_box1 1 ty27 (.when rfl hg) rfl rfl)) ?_
    refine JL.g rfl rfl rfl rfl rfl (fun hg => (by first | exact QW.len_sl sl27 (.when rfl hg) | exact QW.len_nil sl27 (.when rfl hg))) ?_
    refine JL.g rfl rfl rfl rfl rfl (fun hg => (QW.field_ptr fo29_4 (.tmp rfl) rfl)) ?_
    refine JL.g rfl rfl rfl rfl rfl (fun hg => (QW.load_box1 0 ty27 (.when rfl hg) rfl rfl)) ?_
    refine JL.g rfl rfl rfl rfl rfl (fun hg => (by first | exact QW.len_sl sl27 (.when rfl hg) | exact QW.len_nil sl27 (.when rfl hg))) ?_
    refine JL.g rfl rfl rfl rfl rfl (fun hg => (QW.neq (.when rfl hg) (.when rfl hg))) ?_
    refine JL.q rfl rfl rfl (QW.pick_or (.tmp rfl) (.tmp rfl)) ?_
    refine JL.nil ?_
    refine thenQ.n ?_
    refine J.cond (.tmp rfl) (fun c1 => ?_) (fun c1 => ?_)
    · skip
      simp [V.css_length] at c1
      refine J.seq ?_
      refine J.region_lit ?_
      refine JL.q rfl rfl rfl (QW.assign .const) ?_
      refine JL.nil ?_
      refine thenQ.n ?_
      refine J.ret ?_
      refine thenQ.r ?_
      exact ⟨_, selP [.k, .k] _, _, RetEv.one rfl (REv.tmp rfl (.refl _)), rfl, sel_perm [.k, .k] _, ⟨ret_b (by simp [V.same]; intro e1 e2 e3 e4; subst e1 e2 e3 e4; cases hs : V.sames is is' with | false => rfl | true => have := sames_len hs; simp at c1; omega), rfl⟩⟩
    simp [V.css_length] at c1
    obtain ⟨⟨⟨⟨e1, e2⟩, e3⟩, e4⟩, e5⟩ := c1
    have hl : is.length = is'.length := by omega
    refine J.skip ?_
    refine thenQ.n ?_
    refine J.seq ?_
    refine J.seq ?_
    refine J.region_lit ?_
    refine JL.q rfl rfl rfl (QW.assign .const) ?_
    refine JL.nil ?_
    refine thenQ.n ?_
    refine J.block ?_
    refine J.loopK (ι := Nat) [2, 3] (fun j => [(5, .c (.int .i64 (j : Int)))]) (fun _ oo => oo) (fun j => j ≤ is.length ∧ V.sames is is' = V.sames (is.drop j) (is'.drop j)) (fun j => is.length - j) 0 (⟨Nat.zero_le _, rfl⟩) (Wk.re (.cons rfl (.refl _) (.cons rfl (.refl _) (.cons rfl (.refl _) .nil))) (Reown.refl _) (fun _ h => by first | exact h | simp [h])) ?_
    intro j ⟨hj, hs⟩
    refine J.conv (by (try simp only [id_eq, stepsO, List.map_cons, List.map_nil, valO, nthO, curO, mrg, List.reverse_cons, List.reverse_nil, List.nil_append, List.cons_append, List.append_nil, List.getElem?_cons_zero, List.getElem?_cons_succ, Option.map_some, Option.getD_some, List.set_cons_zero, List.set_cons_succ, AV.cellsOf, splice_zero, splice_succ, Nat.zero_add, Nat.reduceAdd]); rfl) ?_
    refine J.seq ?_
    refine J.seq ?_
    refine J.region_lit ?_
    refine JL.q rfl rfl rfl (QW.move (.tmp rfl)) ?_
    refine JL.q rfl rfl rfl (QW.field_ptr fo29_4 (.tmp rfl) rfl) ?_
    refine JL.q rfl rfl rfl (QW.load_box1 1 ty27 (.tmp rfl) rfl rfl) ?_
    refine JL.q rfl rfl rfl (by first | exact QW.len_sl sl27 (.tmp rfl) | exact QW.len_nil sl27 (.tmp rfl)) ?_
    refine JL.q rfl rfl rfl (QW.lss (.tmp rfl) (.tmp rfl)) ?_
    refine JL.nil ?_
    refine thenQ.n ?_
    refine J.cond (.tmp rfl) (fun c2 => ?_) (fun c2 => ?_)
    · skip
      have hlt : j < is.length := by simpa [V.css_length] using c2
      have hlt2 : j < is'.length := by omega
      refine J.skip ?_
      refine thenQ.n ?_
      refine J.seq ?_
      refine J.block ?_
      refine J.seq ?_
      refine J.region_tailK 10 mixed (by kernel_rfl) (by kernel_rfl) (by kernel_rfl) rfl ?_
      refine .cons [] rfl rfl rfl (.q rfl (QW.field_ptr fo29_4 (.tmp rfl) rfl)) ?_
      refine .cons [49] rfl rfl rfl (.q rfl (QW.load_box1 1 ty27 (.tmp rfl) rfl rfl)) ?_
      refine .cons [] rfl rfl rfl (.q rfl (QW.move (.tmp rfl))) ?_
      refine .cons [50, 51] rfl rfl rfl (.q rfl (QW.index_sl sl27 ty29 rfl (.tmp rfl) (.tmp rfl) (by first | rfl | omega | (simp; done)) (by first | exact V.css_getE _ hlt | exact V.css_getE _ hlt2))) ?_
      refine .cons [52] rfl rfl rfl (.q rfl (by first | exact QW.load_ref ty29 (.tmp rfl) rfl rfl | exact QW.load_ref ty29 (.tmp rfl) (take_at0 (V.cs_length _ _) rfl) (V.cs_length _ _))) ?_
      refine .cons [] rfl rfl rfl (.q rfl (QW.field_ptr fo29_4 (.tmp rfl) rfl)) ?_
      refine .cons [54] rfl rfl rfl (.q rfl (QW.load_box1 0 ty27 (.tmp rfl) rfl rfl)) ?_
      refine .cons [] rfl rfl rfl (.q rfl (QW.move (.tmp rfl))) ?_
      refine .cons [55, 56] rfl rfl rfl (.q rfl (QW.index_sl sl27 ty29 rfl (.tmp rfl) (.tmp rfl) (by first | rfl | omega | (simp; done)) (by first | exact V.css_getE _ hlt | exact V.css_getE _ hlt2))) ?_
      refine .cons [57] rfl rfl rfl (.q rfl (by first | exact QW.load_ref ty29 (.tmp rfl) rfl rfl | exact QW.load_ref ty29 (.tmp rfl) (take_at0 (V.cs_length _ _) rfl) (V.cs_length _ _))) ?_
      refine .nil ?_
      refine JL.q rfl rfl rfl (QW.call gofn13 (.cons (.tmp rfl) (.cons (.tmp rfl) .nil)) (ih Vc.self Vc.self (hwi _ (List.getElem_mem _)) (hwi' _ (List.getElem_mem _)) (V.sz_get hn hlt))) ?_
      refine JL.q rfl rfl rfl (QW.not (.tmp rfl)) ?_
      refine JL.nil ?_
      refine thenQ.n ?_
      refine J.cond (.tmp rfl) (fun c3 => ?_) (fun c3 => ?_)
      · skip
        simp at c3
        refine J.seq ?_
        refine J.region_lit ?_
        refine JL.q rfl rfl rfl (QW.assign .const) ?_
        refine JL.nil ?_
        refine thenQ.n ?_
        refine J.ret ?_
        refine blkQ.r ?_
        refine thenQ.r ?_
        refine thenQ.r ?_
        refine blkQ.r ?_
        refine thenQ.r ?_
        exact ⟨_, selP [.k, .k] _, _, RetEv.one rfl (REv.tmp rfl (.refl _)), rfl, sel_perm [.k, .k] _, ⟨ret_b (by rw [sames_drop hlt hlt2, c3] at hs; simp [V.same, hs]), rfl⟩⟩
      simp at c3
      refine J.skip ?_
      refine blkQ.n ?_
      refine thenQ.n ?_
      refine J.region_lit ?_
      refine JL.q rfl rfl rfl (QW.move (.tmp rfl)) ?_
      refine JL.q rfl rfl rfl (QW.add (.tmp rfl) .const (by first | exact w64n (by first | rfl | omega | (simp; done)) (by omega) | exact w64 (by omega) | rfl)) ?_
      refine JL.q rfl rfl rfl (QW.assign (.tmp rfl)) ?_
      refine JL.nil ?_
      refine thenQ.n ?_
      rw [sames_drop hlt hlt2, c3, Bool.true_and] at hs
      exact ⟨j + 1, ⟨hlt, hs⟩, by omega, Wk.re (.cons rfl (.refl _) (.cons rfl (.refl _) (.cons rfl (.refl _) .nil))) (Reown.refl _) (fun _ h => by first | exact h | simp [h])⟩
    have hge : is.length ≤ j := by simpa [V.css_length] using c2
    refine J.exit ?_
    refine thenQ.x ?_
    refine thenQ.x ?_
    refine blkQ.hit ?_
    refine thenQ.n ?_
    refine J.seq ?_
    refine J.region_lit ?_
    refine JL.q rfl rfl rfl (QW.assign .const) ?_
    refine JL.nil ?_
    refine thenQ.n ?_
    refine J.ret ?_
    have hz : V.sames is is' = true := by
      rw [hs, List.drop_of_length_le hge, List.drop_of_length_le (by omega), V.sames]
    exact ⟨_, selP [.k, .k] _, _, RetEv.one rfl (REv.tmp rfl (.refl _)), rfl, sel_perm [.k, .k] _, ⟨ret_b (by simp [V.same, hz, e3, e4]; omega), rfl⟩⟩
theorem copyValue_n  : ∀ (n : Nat) {v : V} {ys : List AV} {fr : Bool}, Vc fr v ys → v.wf → v.sz ≤ n → AC Tryz.prog 22 [] [.agg ys] (RetR (CopyR v)) := by
  intro n
  induction n with
  | zero => intro v ys fr hv hw h; exact absurd h (by have := V.sz_pos v; omega)
  | succ n ih =>
    intro v ys fr hv hw hn
    obtain ⟨k, b, t, ks, is⟩ := v
    subst hv
    obtain ⟨-, -, -, hk16, hi80, -, hwi⟩ := hw.inv
    have h1 : is.length ≤ 9223372036854775806 := by unfold reach at hi80; omega
    refine AC.of_J Tryz.func22 rfl Tryz.ntmps22 rfl fun w0 A0 => ?_
    refine J.seq ?_
    refine J.region_lit ?_
    refine JL.box_agg (.tmp rfl) rfl fun b1 => ?_
    refine JL.alloc z29 rfl rfl fun b2 => ?_
    refine JL.nil ?_
    refine thenQ.n ?_
    refine J.seq ?_
    refine J.region_lit ?_
    refine JL.q rfl rfl rfl (QW.assign .const) ?_
    refine JL.nil ?_
    refine thenQ.n ?_
    refine J.seq ?_
    refine J.region_lit ?_
    refine JL.q rfl rfl rfl (QW.assign .const) ?_
    refine JL.nil ?_
    refine thenQ.n ?_
    refine J.seq ?_
    refine J.seq ?_
    refine J.region_lit ?_
    refine JL.q rfl rfl rfl (QW.assign .const) ?_
    refine JL.nil ?_
    refine thenQ.n ?_
    refine J.block ?_
    refine J.reown (Reown.nilArrE eV _) ?_
    refine J.reown (Reown.nilGrpE _) ?_
    refine J.loopK (ι := Nat × Value × List (List AV) × List Value × Own) [1, 2, 3] (fun ⟨j, v, cs, us, o⟩ => [(5, .c (.int .i64 (j : Int))), (4, .c v)]) (fun ⟨j, v, cs, us, o⟩ oo => List.set (List.set oo 2 (.arr v eV cs)) 3 (o)) (fun ⟨j, v, cs, us, o⟩ => j ≤ is.length ∧ KidsTr (is.take j) cs us o) (fun ⟨j, v, cs, us, o⟩ => is.length - j) ⟨0, .slice none 0 0, [], [], .grp []⟩ (⟨Nat.zero_le _, .nil⟩) (Wk.re (.cons rfl (.refl _) (.cons rfl (.refl _) (.cons rfl (.refl _) (.cons rfl (.refl _) (.cons rfl (.refl _) .nil))))) (Reown.refl _) (fun _ h => by first | exact h | simp [h])) ?_
    intro ⟨j, v, cs, us, o⟩ ⟨hj, hK⟩
    refine J.conv (by (try simp only [id_eq, stepsO, List.map_cons, List.map_nil, valO, nthO, curO, mrg, List.reverse_cons, List.reverse_nil, List.nil_append, List.cons_append, List.append_nil, List.getElem?_cons_zero, List.getElem?_cons_succ, Option.map_some, Option.getD_some, List.set_cons_zero, List.set_cons_succ, AV.cellsOf, splice_zero, splice_succ, Nat.zero_add, Nat.reduceAdd]); rfl) ?_
    refine J.seq ?_
    refine J.seq ?_
    refine J.region_lit ?_
    refine JL.q rfl rfl rfl (QW.move (.tmp rfl)) ?_
    refine JL.q rfl rfl rfl (QW.field_ptr fo29_4 (.tmp rfl) rfl) ?_
    refine JL.q rfl rfl rfl (QW.load_box1 1 ty27 (.tmp rfl) rfl rfl) ?_
    refine JL.q rfl rfl rfl (by first | exact QW.len_sl sl27 (.tmp rfl) | exact QW.len_nil sl27 (.tmp rfl)) ?_
    refine JL.q rfl rfl rfl (QW.lss (.tmp rfl) (.tmp rfl)) ?_
    refine JL.nil ?_
    refine thenQ.n ?_
    refine J.cond (.tmp rfl) (fun c1 => ?_) (fun c1 => ?_)
    · skip
      have hlt : j < is.length := by simpa [V.css_length] using c1
      refine J.skip ?_
      refine thenQ.n ?_
      refine J.seq ?_
      refine J.block ?_
      refine J.region_lit ?_
      refine JL.q rfl rfl rfl (QW.move (.tmp rfl)) ?_
      refine JL.q rfl rfl rfl (QW.field_ptr fo29_4 (.tmp rfl) rfl) ?_
      refine JL.q rfl rfl rfl (QW.load_box1 1 ty27 (.tmp rfl) rfl rfl) ?_
      refine JL.q rfl rfl rfl (QW.move (.tmp rfl)) ?_
      refine JL.q rfl rfl rfl (QW.index_sl sl27 ty29 rfl (.tmp rfl) (.tmp rfl) (by first | rfl | omega | (simp; done)) (by exact V.css_getE _ hlt)) ?_
      refine JL.q rfl rfl rfl (by first | exact QW.load_ref ty29 (.tmp rfl) rfl rfl | exact QW.load_ref ty29 (.tmp rfl) (take_at0 (V.cs_length _ _) rfl) (V.cs_length _ _)) ?_
      refine JL.callRF [] gofn22 rfl Lent.nil (fun _ => (.cons (.tmp rfl) .nil)) (ih Vc.self (hwi _ (List.getElem_mem _)) (V.sz_get hn hlt)) (.inl rfl) fun x19 o19 h19 => ?_
      obtain ⟨kv19, iv19, ok19, oi19, rfl, rfl, hV19⟩ := h19
      refine JL.q rfl rfl rfl (QW.buildSlice (idx := [0]) (xs := [is[j].raw kv19 iv19]) sl27 el29 z29 rfl (.cons (.tmp rfl) .nil) rfl rfl rfl rfl rfl rfl rfl rfl rfl) ?_
      refine JL.append 2 sl27 el29 rfl (.tmp rfl) rfl (srcA_sl sl27 (.tmp rfl)) (by have := hK.h2; rw [List.length_take] at this; simp; unfold reach at *; omega) rfl fun v21 => ?_
      refine JL.q rfl rfl rfl (QW.assign (.tmp rfl)) ?_
      refine JL.nil ?_
      refine blkQ.n ?_
      refine thenQ.n ?_
      refine J.region_lit ?_
      refine JL.q rfl rfl rfl (QW.move (.tmp rfl)) ?_
      refine JL.q rfl rfl rfl (QW.add (.tmp rfl) .const (by first | exact w64n (by first | rfl | omega | (simp; done)) (by omega) | exact w64 (by omega) | rfl)) ?_
      refine JL.q rfl rfl rfl (QW.assign (.tmp rfl)) ?_
      refine JL.nil ?_
      refine thenQ.n ?_
      exact ⟨⟨j + 1, _, _, _, _⟩, ⟨hlt, by rw [List.take_succ_eq_append_getElem hlt]; exact hK.snoc hV19⟩, by show is.length - (j + 1) < is.length - j; omega, Wk.re (.cons rfl (.refl _) (.cons rfl (.refl _) (.cons rfl (.refl _) (.cons rfl (.refl _) (.cons rfl (.refl _) .nil))))) ((Reown.cons (Reown.cons (Reown.cons (Reown.tri _ _ _ _))))) (fun _ h => by first | exact h | simp [h])⟩
    have hge : is.length ≤ j := by simpa [V.css_length] using c1
    refine J.exit ?_
    refine thenQ.x ?_
    refine thenQ.x ?_
    refine blkQ.hit ?_
    refine thenQ.n ?_
    refine J.seq ?_
    refine J.reown (Reown.nilArrE eStr _) ?_
    refine J.region_lit ?_
    refine JL.q rfl rfl rfl (QW.move (.tmp rfl)) ?_
    refine JL.q rfl rfl rfl (QW.field_ptr fo29_3 (.tmp rfl) rfl) ?_
    refine JL.q rfl rfl rfl (QW.load_box1 1 ty26 (.tmp rfl) rfl rfl) ?_
    refine JL.append 4 sl26 el9 rfl (.tmp rfl) rfl (srcA_sl sl26 (.tmp rfl)) (by rw [keysAV_length]; simpa using hk16) rfl fun v25 => ?_
    refine JL.q rfl rfl rfl (QW.move (.tmp rfl)) ?_
    refine JL.q rfl rfl rfl (QW.field_ptr fo29_3 (.tmp rfl) rfl) ?_
    refine JL.isSlice 4 rfl fun hs2 => ?_
    refine JL.isSlice 2 rfl fun hs1 => ?_
    refine JL.store_box 1 ty26 (.tmp rfl) rfl (.tmp rfl) (by first | rfl | assumption) rfl rfl rfl rfl ?_
    refine JL.q rfl rfl rfl (QW.field_ptr fo29_4 (.tmp rfl) rfl) ?_
    refine JL.store_box 1 ty27 (.tmp rfl) rfl (.tmp rfl) (by first | rfl | assumption) rfl rfl rfl rfl ?_
    refine JL.nil ?_
    refine thenQ.n ?_
    refine J.seq ?_
    refine J.reown (Reown.cons (Reown.cons (Reown.rot3g _ _ _ _))) ?_
    refine J.region_lit ?_
    refine JL.q rfl rfl rfl (by first | exact QW.load_box 1 ty29 (.tmp rfl) rfl rfl rfl | exact QW.load_box 1 ty29 (.tmp rfl) rfl (take_at (V.cs_length _ _) rfl) (V.cs_length _ _)) ?_
    first | refine JL.store_boxF 0 ty29 (.tmp rfl) rfl (.tmp rfl) (by first | rfl | assumption) (by first | rfl | exact V.cs_length _ _) (by first | rfl | exact V.cs_length _ _) rfl ?_ | refine JL.store_box 0 ty29 (.tmp rfl) rfl (.tmp rfl) (by first | rfl | assumption) (by first | rfl | exact V.cs_length _ _) rfl rfl rfl ?_
    refine JL.nil ?_
    refine thenQ.n ?_
    refine J.ret ?_
    obtain rfl : j = is.length := by omega
    rw [List.take_length] at hK
    exact ⟨_, selP [.k, .k, .p, .p] _, _, RetEv.one rfl (by first | exact REv.cell 0 ty29 rfl rfl rfl rfl (.refl _) | exact REv.cell 0 ty29 rfl rfl (take_at (V.cs_length _ _) rfl) (V.cs_length _ _) (.refl _)), rfl, sel_perm [.k, .k, .p, .p] _, ⟨_, rfl, _, _, _, _, rfl, rfl, hs2, hs1, keys_tr hk16, hK.tr hi80⟩⟩
end Go.Proofs.YtjhonjdhanlbkaaGreat.J

/- Walks: the page's copy of a value; the program's; lists that are copied. -/
namespace Go.Proofs.YtjhonjdhanlbkaaGreat.J
open Go Go.RowKit
set_option maxRecDepth 10000
set_option maxHeartbeats 4000000
theorem copyValue_ok {v : V} {ys : List AV} {fr : Bool} (hv : Vc fr v ys) (hw : v.wf) : AC Tryz.prog 22 [] [.agg ys] (RetR (CopyR v)) := copyValue_n _ hv hw (Nat.le_refl _)
theorem copyValue_rd {v : V} {ys : List AV} {fr : Bool} (hv : Vc fr v ys) (hw : v.wf) : Fn Tryz.prog 22 [.agg ys] (.agg (v.cs true)) := .ofCopy (copyValue_ok hv hw)
theorem sameValue_ok {v u : V} {ys zs : List AV} {fr fr2 : Bool} (hv : Vc fr v ys) (hu : Vc fr2 u zs) (hw : v.wf) (hw2 : u.wf) : Fn Tryz.prog 13 [.agg ys, .agg zs] (.c (.bool (v.same u))) := sameValue_n _ hv hu hw hw2 (Nat.le_refl _)
def CloneR (e : ETy) (xs : List (List AV)) : AV → List Own → Prop := fun x o => ∃ v, x = .c v ∧ v.oneCell' = true ∧ o = [.arr v e xs]
theorem cloneStr_ok {fr : Bool} (xs : List (List AV)) (hr : xs.length * 16 ≤ reach) : AC Tryz.prog 43 [] [.sl fr false eStr xs] (RetR (CloneR eStr xs)) := by
  refine AC.of_J Tryz.func43 rfl Tryz.ntmps43 rfl fun w0 A0 => ?_
  refine J.seq ?_
  refine J.region_lit ?_
  refine JL.q rfl rfl rfl (QW.assign .const) ?_
  refine JL.nil ?_
  refine thenQ.n ?_
  refine J.seq ?_
  refine J.seq ?_
  refine J.region_lit ?_
  refine JL.q rfl rfl rfl (QW.move (.tmp rfl)) ?_
  refine JL.eqnil sl26 (.tmp rfl) .const rfl fun n4 hn4 => ?_
  refine JL.nil ?_
  refine thenQ.n ?_
  refine J.cond (.tmp rfl) (fun c1 => ?_) (fun c1 => ?_)
  · skip
    refine J.seq ?_
    refine J.reown (Reown.nilArrE eStr _) ?_
    refine J.region_lit ?_
    refine JL.q rfl rfl rfl (QW.assign .const) ?_
    refine JL.nil ?_
    refine thenQ.n ?_
    refine J.ret ?_
    refine thenQ.r ?_
    obtain rfl : xs = [] := hn4 c1
    exact ⟨_, selP [.p] _, _, RetEv.one rfl (REv.tmp rfl (.refl _)), rfl, sel_perm [.p] _, ⟨_, rfl, _, rfl, rfl, rfl⟩⟩
  refine J.skip ?_
  refine thenQ.n ?_
  refine J.seq ?_
  refine J.region_lit ?_
  refine JL.buildSlice0 sl26 el9 rfl rfl fun v5 => ?_
  refine JL.q rfl rfl rfl (QW.move (.tmp rfl)) ?_
  refine JL.append 0 sl26 el9 rfl (.tmp rfl) rfl (srcA_sl sl26 (.tmp rfl)) (by simpa using hr) rfl fun v7 => ?_
  refine JL.isSlice 0 rfl fun hs1 => ?_
  refine JL.q rfl rfl rfl (QW.assign (.tmp rfl)) ?_
  refine JL.nil ?_
  refine thenQ.n ?_
  refine J.ret ?_
  exact ⟨_, selP [.p] _, _, RetEv.one rfl (REv.tmp rfl (.refl _)), rfl, sel_perm [.p] _, ⟨_, rfl, _, rfl, hs1, rfl⟩⟩
theorem cloneVal_ok {fr : Bool} (xs : List (List AV)) (hr : xs.length * 80 ≤ reach) : AC Tryz.prog 44 [] [.sl fr false eV xs] (RetR (CloneR eV xs)) := by
  refine AC.of_J Tryz.func44 rfl Tryz.ntmps44 rfl fun w0 A0 => ?_
  refine J.seq ?_
  refine J.region_lit ?_
  refine JL.q rfl rfl rfl (QW.assign .const) ?_
  refine JL.nil ?_
  refine thenQ.n ?_
  refine J.seq ?_
  refine J.seq ?_
  refine J.region_lit ?_
  refine JL.q rfl rfl rfl (QW.move (.tmp rfl)) ?_
  refine JL.eqnil sl27 (.tmp rfl) .const rfl fun n4 hn4 => ?_
  refine JL.nil ?_
  refine thenQ.n ?_
  refine J.cond (.tmp rfl) (fun c1 => ?_) (fun c1 => ?_)
  · skip
    refine J.seq ?_
    refine J.reown (Reown.nilArrE eV _) ?_
    refine J.region_lit ?_
    refine JL.q rfl rfl rfl (QW.assign .const) ?_
    refine JL.nil ?_
    refine thenQ.n ?_
    refine J.ret ?_
    refine thenQ.r ?_
    obtain rfl : xs = [] := hn4 c1
    exact ⟨_, selP [.p] _, _, RetEv.one rfl (REv.tmp rfl (.refl _)), rfl, sel_perm [.p] _, ⟨_, rfl, _, rfl, rfl, rfl⟩⟩
  refine J.skip ?_
  refine thenQ.n ?_
  refine J.seq ?_
  refine J.region_lit ?_
  refine JL.buildSlice0 sl27 el29 rfl rfl fun v5 => ?_
  refine JL.q rfl rfl rfl (QW.move (.tmp rfl)) ?_
  refine JL.append 0 sl27 el29 rfl (.tmp rfl) rfl (srcA_sl sl27 (.tmp rfl)) (by simpa using hr) rfl fun v7 => ?_
  refine JL.isSlice 0 rfl fun hs1 => ?_
  refine JL.q rfl rfl rfl (QW.assign (.tmp rfl)) ?_
  refine JL.nil ?_
  refine thenQ.n ?_
  refine J.ret ?_
  exact ⟨_, selP [.p] _, _, RetEv.one rfl (REv.tmp rfl (.refl _)), rfl, sel_perm [.p] _, ⟨_, rfl, _, rfl, hs1, rfl⟩⟩
theorem clone_get {cs : List (List AV)} {is : List V} {j : Nat} (fr : Bool) (hc : cs.length = j) (h : j < is.length) : (cs ++ V.css fr (is.drop j))[j]? = some (V.cs fr is[j]) := by
  rw [List.getElem?_append_right (by omega), hc, Nat.sub_self, List.drop_eq_getElem_cons h]; rfl
theorem clone_set {cs : List (List AV)} {is : List V} {j : Nat} {fr : Bool} {z : List AV} (hc : cs.length = j) (h : j < is.length) : (cs ++ V.css fr (is.drop j)).set j z = (cs ++ [z]) ++ V.css fr (is.drop (j + 1)) := by
  rw [List.set_append_right _ _ (by omega), hc, Nat.sub_self, List.drop_eq_getElem_cons h]
  simp [V.css]
theorem splice_all {ys zs : List AV} (h : zs.length = ys.length) : splice ys 0 zs = zs := by unfold splice; simp [h]
theorem clone_n  : ∀ (n : Nat) {v : V} {ys : List AV} {fr : Bool}, Vc fr v ys → v.wf → v.sz ≤ n → AC Tryz.prog 32 [] [.agg ys] (RetR (CopyR v)) := by
  intro n
  induction n with
  | zero => intro v ys fr hv hw h; exact absurd h (by have := V.sz_pos v; omega)
  | succ n ih =>
    intro v ys fr hv hw hn
    obtain ⟨k, b, t, ks, is⟩ := v
    subst hv
    obtain ⟨-, -, -, hk16, hi80, -, hwi⟩ := hw.inv
    have h1 : is.length ≤ 9223372036854775806 := by unfold reach at hi80; omega
    refine AC.of_J Tryz.func32 rfl Tryz.ntmps32 rfl fun w0 A0 => ?_
    refine J.seq ?_
    refine J.region_lit ?_
    refine JL.box_agg (.tmp rfl) rfl fun b1 => ?_
    refine JL.alloc z29 rfl rfl fun b2 => ?_
    refine JL.nil ?_
    refine thenQ.n ?_
    refine J.seq ?_
    refine J.region_outK 7 2 (fun os_ ow_ x_ o_ => match os_ with | [] => (∃ o2_, (CloneR eStr (keysAV ks)) x_ o2_ ∧ o_ = mrg [] o2_ ow_) | [(x0_, _)] => (∃ o2_, (CloneR eV (V.css fr is)) x_ o2_ ∧ o_ = mrg [] o2_ ow_) | _ => False) mixed (by kernel_rfl) (by kernel_rfl) (by kernel_rfl) rfl ?_
    refine OutK.quiet [] rfl rfl rfl (fun qs_ qv_ ql_ => (.q rfl (QW.field_ptr fo29_3 (.tmp rfl) rfl))) ?_
    refine OutK.quiet [5] rfl rfl rfl (fun qs_ qv_ ql_ => by
        rcases qs_ with _ | ⟨⟨y0, p0⟩, qs_⟩
        · skip
          exact (.q rfl (QW.load_box1 1 ty26 (.tmp rfl) rfl rfl))
        rcases qs_ with _ | ⟨⟨y1, p1⟩, qs_⟩
        · skip
          obtain ⟨hr0, _⟩ := qv_
          obtain ⟨o7, ⟨kv7, rfl, hs7, rfl⟩, rfl⟩ := hr0
          exact (.q rfl (QW.load_box1 1 ty26 (.tmp rfl) rfl rfl))
        rcases qs_ with _ | ⟨⟨y2, p2⟩, qs_⟩
        · skip
          obtain ⟨hr1, hr0, _⟩ := qv_
          obtain ⟨o7, ⟨kv7, rfl, hs7, rfl⟩, rfl⟩ := hr0
          obtain ⟨o10, ⟨iv10, rfl, hs10, rfl⟩, rfl⟩ := hr1
          exact (.q rfl (QW.load_box1 1 ty26 (.tmp rfl) rfl rfl))
        exact absurd ql_ (by simp)) ?_
    refine OutK.loud [6] rfl rfl rfl rfl rfl (fun qs_ qv_ ql_ => by
        obtain rfl : qs_ = [] := List.length_eq_zero_iff.1 ql_
        exact LStepR.callRF (d := 7) [] gofn43 Lent.nil (fun _ => (.cons (.tmp rfl) .nil)) (cloneStr_ok _ (by rw [keysAV_length]; exact hk16)) (.inl rfl)) ?_
    refine OutK.quiet [] rfl rfl rfl (fun qs_ qv_ ql_ => (.q rfl (QW.field_ptr fo29_4 (.tmp rfl) rfl))) ?_
    refine OutK.quiet [8] rfl rfl rfl (fun qs_ qv_ ql_ => by
        rcases qs_ with _ | ⟨⟨y0, p0⟩, qs_⟩
        · skip
          exact (.q rfl (QW.load_box1 1 ty27 (.tmp rfl) rfl rfl))
        rcases qs_ with _ | ⟨⟨y1, p1⟩, qs_⟩
        · skip
          obtain ⟨hr0, _⟩ := qv_
          obtain ⟨o7, ⟨kv7, rfl, hs7, rfl⟩, rfl⟩ := hr0
          exact (.q rfl (QW.load_box1 1 ty27 (.tmp rfl) rfl rfl))
        rcases qs_ with _ | ⟨⟨y2, p2⟩, qs_⟩
        · skip
          obtain ⟨hr1, hr0, _⟩ := qv_
          obtain ⟨o7, ⟨kv7, rfl, hs7, rfl⟩, rfl⟩ := hr0
          obtain ⟨o10, ⟨iv10, rfl, hs10, rfl⟩, rfl⟩ := hr1
          exact (.q rfl (QW.load_box1 1 ty27 (.tmp rfl) rfl rfl))
        exact absurd ql_ (by simp)) ?_
    refine OutK.loud [9] rfl rfl rfl rfl rfl (fun qs_ qv_ ql_ => by
        obtain ⟨⟨y0, p0⟩, qs_, rfl⟩ : ∃ p t, qs_ = p :: t := by (cases qs_ with | nil => simp at ql_ | cons p t => exact ⟨p, t, rfl⟩)
        obtain rfl : qs_ = [] := List.length_eq_zero_iff.1 (by simpa using ql_)
        obtain ⟨hr0, _⟩ := qv_
        obtain ⟨o7, ⟨kv7, rfl, hs7, rfl⟩, rfl⟩ := hr0
        exact LStepR.callRF (d := 10) [] gofn44 Lent.nil (fun _ => (.cons (.tmp rfl) .nil)) (cloneVal_ok _ (by rw [V.css_length]; exact hi80)) (.inl rfl)) ?_
    refine OutK.quiet [] rfl rfl rfl (fun qs_ qv_ ql_ => (.q rfl (QW.field_ptr fo29_3 (.tmp rfl) rfl))) ?_
    refine .nil fun qs_ qv_ ql_ => ?_
    obtain ⟨⟨y1, p1⟩, qs_, rfl⟩ : ∃ p t, qs_ = p :: t := by (cases qs_ with | nil => simp at ql_ | cons p t => exact ⟨p, t, rfl⟩)
    simp only [List.length_cons, Nat.add_right_cancel_iff] at ql_
    obtain ⟨⟨y0, p0⟩, qs_, rfl⟩ : ∃ p t, qs_ = p :: t := by (cases qs_ with | nil => simp at ql_ | cons p t => exact ⟨p, t, rfl⟩)
    obtain rfl : qs_ = [] := List.length_eq_zero_iff.1 (by simpa using ql_)
    obtain ⟨hr1, hr0, _⟩ := qv_
    obtain ⟨o7, ⟨kv7, rfl, hs7, rfl⟩, rfl⟩ := hr0
    obtain ⟨o10, ⟨iv10, rfl, hs10, rfl⟩, rfl⟩ := hr1
    refine JL.conv (by (try simp only [id_eq, stepsO, List.map_cons, List.map_nil, valO, nthO, curO, mrg, List.reverse_cons, List.reverse_nil, List.nil_append, List.cons_append, List.append_nil, List.getElem?_cons_zero, List.getElem?_cons_succ, Option.map_some, Option.getD_some, List.set_cons_zero, List.set_cons_succ, AV.cellsOf, splice_zero, splice_succ, Nat.zero_add, Nat.reduceAdd]); rfl) ?_
    refine JL.store_box 1 ty26 (.tmp rfl) rfl (.tmp rfl) (by first | rfl | assumption) rfl rfl rfl rfl ?_
    refine JL.q rfl rfl rfl (QW.field_ptr fo29_4 (.tmp rfl) rfl) ?_
    refine JL.store_box 1 ty27 (.tmp rfl) rfl (.tmp rfl) (by first | rfl | assumption) rfl rfl rfl rfl ?_
    refine JL.nil ?_
    refine thenQ.n ?_
    refine J.seq ?_
    refine J.seq ?_
    refine J.region_lit ?_
    refine JL.q rfl rfl rfl (QW.field_ptr fo29_4 (.tmp rfl) rfl) ?_
    refine JL.q rfl rfl rfl (QW.load_box1 1 ty27 (.tmp rfl) rfl rfl) ?_
    refine JL.q rfl rfl rfl (QW.len_arr 3 sl27 (.tmp rfl) rfl) ?_
    refine JL.q rfl rfl rfl (QW.move .const) ?_
    refine JL.nil ?_
    refine thenQ.n ?_
    refine J.block ?_
    refine J.reown (Reown.nilGrpE _) ?_
    refine J.loopK (ι := Nat × List (List AV) × List Value × Own) [1, 2, 14, 15] (fun ⟨j, cs, us, o⟩ => [(16, .c (.int .i64 (j : Int)))]) (fun ⟨j, cs, us, o⟩ oo => List.set (List.set oo 3 (.arr iv10 eV (cs ++ V.css fr (is.drop j)))) 4 (o)) (fun ⟨j, cs, us, o⟩ => j ≤ is.length ∧ KidsTr (is.take j) cs us o) (fun ⟨j, cs, us, o⟩ => is.length - j) ⟨0, [], [], .grp []⟩ (⟨Nat.zero_le _, .nil⟩) (Wk.re (.cons rfl (.refl _) (.cons rfl (.refl _) (.cons rfl (.refl _) (.cons rfl (.refl _) (.cons rfl (.refl _) .nil))))) (Reown.refl _) (fun _ h => by first | exact h | simp [h])) ?_
    intro ⟨j, cs, us, o⟩ ⟨hj, hK⟩
    refine J.conv (by (try simp only [id_eq, stepsO, List.map_cons, List.map_nil, valO, nthO, curO, mrg, List.reverse_cons, List.reverse_nil, List.nil_append, List.cons_append, List.append_nil, List.getElem?_cons_zero, List.getElem?_cons_succ, Option.map_some, Option.getD_some, List.set_cons_zero, List.set_cons_succ, AV.cellsOf, splice_zero, splice_succ, Nat.zero_add, Nat.reduceAdd]); rfl) ?_
    refine J.seq ?_
    refine J.region_lit ?_
    refine JL.q rfl rfl rfl (QW.lss (.tmp rfl) (.tmp rfl)) ?_
    refine JL.nil ?_
    refine thenQ.n ?_
    refine J.seq ?_
    refine J.cond (.tmp rfl) (fun c1 => ?_) (fun c1 => ?_)
    · skip
      have hlt : j < is.length := by simpa [V.css_length] using c1
      have hcl : cs.length = j := by have := hK.h2; rw [List.length_take] at this; omega
      refine J.skip ?_
      refine thenQ.n ?_
      refine J.seq ?_
      refine J.block ?_
      refine J.seq ?_
      refine J.region_lit ?_
      refine JL.q rfl rfl rfl (QW.move (.tmp rfl)) ?_
      refine JL.q rfl rfl rfl (QW.index_arr 3 sl27 ty29 rfl (.tmp rfl) rfl (.tmp rfl) (by first | rfl | omega | (simp; done)) (by simp [V.css_length]; omega) rfl) ?_
      refine JL.q rfl rfl rfl (by first | exact QW.load_gp 3 ty29 (.tmp rfl) rfl (by exact clone_get fr hcl hlt) rfl rfl rfl | exact QW.load_gp (o := 0) 3 ty29 (.tmp rfl) rfl (by exact clone_get fr hcl hlt) rfl rfl rfl | exact QW.load_gp (o := 1) 3 ty29 (.tmp rfl) rfl (by exact clone_get fr hcl hlt) rfl rfl rfl | exact QW.load_gp (o := 2) 3 ty29 (.tmp rfl) rfl (by exact clone_get fr hcl hlt) rfl rfl rfl | exact QW.load_gp 3 ty29 (.tmp rfl) rfl (by exact clone_get fr hcl hlt) rfl (take_full (V.cs_length _ _)) (V.cs_length _ _)) ?_
      refine JL.alloc z29 rfl rfl fun b4 => ?_
      refine JL.q rfl rfl rfl (QW.assign (.tmp rfl)) ?_
      first | refine JL.store_boxF 0 ty29 (.tmp rfl) rfl (.tmp rfl) (by first | rfl | assumption) (by first | rfl | exact V.cs_length _ _) (by first | rfl | exact V.cs_length _ _) rfl ?_ | refine JL.store_box 0 ty29 (.tmp rfl) rfl (.tmp rfl) (by first | rfl | assumption) (by first | rfl | exact V.cs_length _ _) rfl rfl rfl ?_
      refine JL.nil ?_
      refine thenQ.n ?_
      refine J.region_outK 5 1 (fun os_ ow_ x_ o_ => match os_ with | [] => (∃ o2_, (CopyR is[j]) x_ o2_ ∧ o_ = mrg [] o2_ ow_) | _ => False) mixed (by kernel_rfl) (by kernel_rfl) (by kernel_rfl) rfl ?_
      refine OutK.quiet [] rfl rfl rfl (fun qs_ qv_ ql_ => (.q rfl (QW.field_ptr fo29_4 (.tmp rfl) rfl))) ?_
      refine OutK.quiet [21] rfl rfl rfl (fun qs_ qv_ ql_ => by
          rcases qs_ with _ | ⟨⟨y0, p0⟩, qs_⟩
          · skip
            exact (.q rfl (QW.load_box1 2 ty27 (.tmp rfl) rfl rfl))
          rcases qs_ with _ | ⟨⟨y1, p1⟩, qs_⟩
          · skip
            obtain ⟨hr0, _⟩ := qv_
            obtain ⟨o25, ⟨kv25, iv25, ok25, oi25, rfl, rfl, hV25⟩, rfl⟩ := hr0
            exact (.q rfl (QW.load_box1 2 ty27 (.tmp rfl) rfl rfl))
          exact absurd ql_ (by simp)) ?_
      refine OutK.quiet [] rfl rfl rfl (fun qs_ qv_ ql_ => (.q rfl (QW.move (.tmp rfl)))) ?_
      refine OutK.quiet [] rfl rfl rfl (fun qs_ qv_ ql_ => by
          rcases qs_ with _ | ⟨⟨y0, p0⟩, qs_⟩
          · skip
            exact (.q rfl (by first | exact QW.load_box 0 ty29 (.tmp rfl) rfl rfl rfl | exact QW.load_box 0 ty29 (.tmp rfl) rfl (take_at (V.cs_length _ _) rfl) (V.cs_length _ _)))
          rcases qs_ with _ | ⟨⟨y1, p1⟩, qs_⟩
          · skip
            obtain ⟨hr0, _⟩ := qv_
            obtain ⟨o25, ⟨kv25, iv25, ok25, oi25, rfl, rfl, hV25⟩, rfl⟩ := hr0
            exact (.q rfl (by first | exact QW.load_box 0 ty29 (.tmp rfl) rfl rfl rfl | exact QW.load_box 0 ty29 (.tmp rfl) rfl (take_at (V.cs_length _ _) rfl) (V.cs_length _ _)))
          exact absurd ql_ (by simp)) ?_
      refine OutK.loud [24] rfl rfl rfl rfl rfl (fun qs_ qv_ ql_ => by
          obtain rfl : qs_ = [] := List.length_eq_zero_iff.1 ql_
          exact LStepR.callRF (d := 25) [] gofn32 Lent.nil (fun _ => (.cons (.tmp rfl) .nil)) (ih Vc.self (hwi _ (List.getElem_mem _)) (V.sz_get hn hlt)) (.inl rfl)) ?_
      refine .nil fun qs_ qv_ ql_ => ?_
      obtain ⟨⟨y0, p0⟩, qs_, rfl⟩ : ∃ p t, qs_ = p :: t := by (cases qs_ with | nil => simp at ql_ | cons p t => exact ⟨p, t, rfl⟩)
      obtain rfl : qs_ = [] := List.length_eq_zero_iff.1 (by simpa using ql_)
      obtain ⟨hr0, _⟩ := qv_
      obtain ⟨o25, ⟨kv25, iv25, ok25, oi25, rfl, rfl, hV25⟩, rfl⟩ := hr0
      refine JL.conv (by (try simp only [id_eq, stepsO, List.map_cons, List.map_nil, valO, nthO, curO, mrg, List.reverse_cons, List.reverse_nil, List.nil_append, List.cons_append, List.append_nil, List.getElem?_cons_zero, List.getElem?_cons_succ, Option.map_some, Option.getD_some, List.set_cons_zero, List.set_cons_succ, AV.cellsOf, splice_zero, splice_succ, Nat.zero_add, Nat.reduceAdd]); rfl) ?_
      refine JL.q rfl rfl rfl (QW.index_arr 4 sl27 ty29 rfl (.tmp rfl) rfl (.tmp rfl) (by first | rfl | omega | (simp; done)) (by simp [V.css_length]; omega) rfl) ?_
      refine JL.store_gp 4 ty29 (.tmp rfl) rfl (clone_get fr hcl hlt) rfl (.tmp rfl) rfl rfl rfl ((congrArg (List.set _ _) (splice_all (by rw [V.cs_length]; try rfl))).trans (clone_set hcl hlt)) rfl ?_
      refine JL.nil ?_
      refine blkQ.n ?_
      refine thenQ.n ?_
      refine J.region_lit ?_
      refine JL.q rfl rfl rfl (QW.add (.tmp rfl) .const (by first | exact w64n (by first | rfl | omega | (simp; done)) (by omega) | exact w64 (by omega) | rfl)) ?_
      refine JL.q rfl rfl rfl (QW.move (.tmp rfl)) ?_
      refine JL.nil ?_
      refine thenQ.n ?_
      exact ⟨⟨j + 1, cs ++ [is[j].raw kv25 iv25], us ++ is[j].vals kv25 iv25, .grp [o, .grp [ok25, oi25]]⟩, ⟨hlt, by rw [List.take_succ_eq_append_getElem hlt]; exact hK.snoc hV25⟩, by show is.length - (j + 1) < is.length - j; omega, Wk.re (.cons rfl (.refl _) (.cons rfl (.refl _) (.cons rfl (.refl _) (.cons rfl (.refl _) (.cons rfl (.refl _) .nil))))) ((Reown.dropN 1 _ rfl).trans (Reown.cons (Reown.cons (Reown.cons (Reown.cons (Reown.tri _ _ _ _)))))) (fun _ h => by first | exact h | simp [h])⟩
    have hge : is.length ≤ j := by simpa [V.css_length] using c1
    refine J.exit ?_
    refine thenQ.x ?_
    refine thenQ.x ?_
    refine blkQ.hit ?_
    refine thenQ.n ?_
    refine J.seq ?_
    refine J.reown (Reown.cons (Reown.cons (Reown.cons (Reown.grp2 _ _ _)))) ?_
    refine J.region_lit ?_
    refine JL.q rfl rfl rfl (by first | exact QW.load_box 1 ty29 (.tmp rfl) rfl rfl rfl | exact QW.load_box 1 ty29 (.tmp rfl) rfl (take_at (V.cs_length _ _) rfl) (V.cs_length _ _)) ?_
    first | refine JL.store_boxF 0 ty29 (.tmp rfl) rfl (.tmp rfl) (by first | rfl | assumption) (by first | rfl | exact V.cs_length _ _) (by first | rfl | exact V.cs_length _ _) rfl ?_ | refine JL.store_box 0 ty29 (.tmp rfl) rfl (.tmp rfl) (by first | rfl | assumption) (by first | rfl | exact V.cs_length _ _) rfl rfl rfl ?_
    refine JL.nil ?_
    refine thenQ.n ?_
    refine J.ret ?_
    obtain rfl : j = is.length := by omega
    rw [List.take_length] at hK
    exact ⟨_, selP [.k, .k, .p, .p] _, _, RetEv.one rfl (by first | exact REv.cell 0 ty29 rfl rfl rfl rfl (.refl _) | exact REv.cell 0 ty29 rfl rfl (take_at (V.cs_length _ _) rfl) (V.cs_length _ _) (.refl _)), rfl, sel_perm [.k, .k, .p, .p] _, ⟨_, rfl, _, _, _, _, rfl, rfl, hs7, hs10, keys_tr hk16, by rw [show cs ++ V.css fr (is.drop is.length) = cs by simp [V.css]]; exact hK.tr hi80⟩⟩
theorem clone_ok {v : V} {ys : List AV} {fr : Bool} (hv : Vc fr v ys) (hw : v.wf) : AC Tryz.prog 32 [] [.agg ys] (RetR (CopyR v)) := clone_n _ hv hw (Nat.le_refl _)
theorem clone_rd {v : V} {ys : List AV} {fr : Bool} (hv : Vc fr v ys) (hw : v.wf) : Fn Tryz.prog 32 [.agg ys] (.agg (v.cs true)) := .ofCopy (clone_ok hv hw)
end Go.Proofs.YtjhonjdhanlbkaaGreat.J

/- Walks: a value that is spoilt. -/
namespace Go.Proofs.YtjhonjdhanlbkaaGreat.J
open Go Go.RowKit
set_option maxRecDepth 10000
set_option maxHeartbeats 4000000
end Go.Proofs.YtjhonjdhanlbkaaGreat.J

/- Steps into values: what is found, got and set, as plain data. -/
namespace Go.Proofs.YtjhonjdhanlbkaaGreat.J
open Go Go.RowKit
structure StT where
  isKey : Bool
  key : Str
  index : Int
  deriving DecidableEq
def eSt : ETy := ⟨3, 32⟩
def StT.cs (s : StT) : List AV := [.c (.bool s.isKey), .c (str s.key), .c (.int .i64 s.index)]
def StT.css (l : List StT) : List (List AV) := l.map StT.cs
theorem StT.css_length (l : List StT) : (StT.css l).length = l.length := by simp [StT.css]
theorem StT.css_getE {l : List StT} {i : Nat} (h : i < l.length) : (StT.css l)[i]? = some l[i].cs := by simp [StT.css, h]
structure StT.wf (s : StT) : Prop where
  k : s.key.length ≤ reach
  i : -9223372036854775808 ≤ s.index ∧ s.index ≤ 9223372036854775807
def Sc (s : StT) (ys : List AV) : Prop := ys = s.cs
theorem Sc.self {s : StT} : Sc s s.cs := rfl
/-! ### texts in order -/
theorem less_trans : ∀ {a b c : Str}, Op.bytesLess a b = true → Op.bytesLess b c = true → Op.bytesLess a c = true
  | a, [], _, h, _ => by cases a <;> simp [Op.bytesLess] at h
  | [], y :: b, z :: c, _, _ => rfl
  | _, y :: b, [], _, h => by simp [Op.bytesLess] at h
  | x :: a, y :: b, z :: c, h, k => by
    simp only [Op.bytesLess, Bool.or_eq_true, decide_eq_true_eq, Bool.and_eq_true, beq_iff_eq, UInt8.lt_iff_toNat_lt] at h k ⊢
    rcases h with h | ⟨rfl, h⟩
    · rcases k with k | ⟨rfl, k⟩
      · exact .inl (by omega)
      · exact .inl h
    · rcases k with k | ⟨rfl, k⟩
      · exact .inl k
      · exact .inr ⟨rfl, less_trans h k⟩
def Sorted (l : List Str) : Prop := List.Pairwise (fun a b => Op.bytesLess a b = true) l
theorem keysOk_sorted {l : List Str} (h : keysOk l = true) : Sorted l := by
  have hk : ∀ j, j < l.length → keyAt l j = true := fun j hj => List.all_eq_true.1 h j (by simpa using hj)
  rw [Sorted, List.pairwise_iff_getElem]
  intro i j hi hj hij
  induction j with
  | zero => omega
  | succ j ih =>
    have h1 := hk (j + 1) hj
    simp only [keyAt, Bool.and_eq_true, Bool.or_eq_true, beq_iff_eq, Nat.add_sub_cancel] at h1
    have h2 : Op.bytesLess l[j] l[j + 1] = true := by
      have := h1.2.resolve_left (by omega)
      simpa [List.getD, hj, show j < l.length by omega] using this
    by_cases he : i = j
    · subst he; exact h2
    · exact less_trans (ih (by omega) (by omega)) h2
def low : List Str → Str → Nat
  | [], _ => 0
  | k :: r, s => if Op.bytesLess k s then low r s + 1 else 0
theorem low_le : ∀ (l : List Str) (s : Str), low l s ≤ l.length
  | [], _ => Nat.le_refl _
  | k :: r, s => by
    have := low_le r s
    unfold low
    split
    · simp; exact this
    · exact Nat.zero_le _
theorem low_lt : ∀ {l : List Str} {s : Str} {i : Nat} (h : i < l.length), i < low l s → Op.bytesLess l[i] s = true
  | k :: r, s, i, h, hi => by
    unfold low at hi
    split at hi
    · rename_i hk
      cases i with
      | zero => exact hk
      | succ i => exact low_lt (l := r) (by simpa using h) (by omega)
    · omega
theorem low_at : ∀ {l : List Str} {s : Str} (h : low l s < l.length), Op.bytesLess l[low l s] s = false
  | k :: r, s, h => by
    by_cases hk : Op.bytesLess k s = true
    · have e : low (k :: r) s = low r s + 1 := by rw [low, if_pos hk]
      simp only [e, List.getElem_cons_succ]
      exact low_at (by rw [e] at h; simpa using h)
    · have e : low (k :: r) s = 0 := by rw [low, if_neg hk]
      simp only [e, List.getElem_cons_zero]
      simpa using hk
theorem low_ge {l : List Str} {s : Str} (hs : Sorted l) {i : Nat} (h : i < l.length) (hi : low l s ≤ i) : Op.bytesLess l[i] s = false := by
  have h0 := low_at (l := l) (s := s) (by omega)
  by_cases he : low l s = i
  · simp only [he] at h0; exact h0
  · cases hc : Op.bytesLess l[i] s with
    | false => rfl
    | true =>
      have := (List.pairwise_iff_getElem.1 hs) (low l s) i (by omega) h (by omega)
      rw [less_trans this hc] at h0
      cases h0
/-! ### values that may be -/
inductive V.Fine : V → Prop
  | mk {v : V} (h : partOk v = true) (hs : ∀ x ∈ v.items, V.Fine x) : V.Fine v
theorem V.Fine.part {v : V} (h : v.Fine) : partOk v = true := by cases h; assumption
theorem V.Fine.kid {v : V} (h : v.Fine) {x : V} (hx : x ∈ v.items) : x.Fine := by cases h with | mk _ h => exact h x hx
mutual
theorem V.fine_chk : ∀ (v : V) (lev n : Int), (v.chk lev n).1 = 0 → v.Fine
  | .mk k b t ks is, lev, n, h => by
    unfold V.chk at h
    split at h
    · simp at h
    · split at h
      · simp at h
      · split at h
        · simp at h
        · rename_i hp
          exact .mk (by simpa using hp) (V.fine_chks is lev (n + 1) h)
theorem V.fine_chks : ∀ (l : List V) (lev n : Int), (V.chks l lev n).1 = 0 → ∀ x ∈ l, x.Fine
  | [], _, _, _ => fun _ h => by cases h
  | y :: r, lev, n, h => fun x hx => by
    unfold V.chks at h
    split at h
    · rename_i h'; exact absurd h h'
    · rename_i h'
      rcases List.mem_cons.1 hx with e | hx
      · rw [e]; exact V.fine_chk y (lev + 1) n (by simpa using h')
      · exact V.fine_chks r lev _ h x hx
end
theorem V.fine_of {v : V} (h : v.err = 0) : v.Fine := V.fine_chk v 1 0 h
theorem partOk_rec {v : V} (h : partOk v = true) (hk : v.kind = 5) : v.keys.length = v.items.length ∧ keysOk v.keys = true := by
  obtain ⟨k, b, t, ks, is⟩ := v
  simp only [V.kind] at hk
  subst hk
  simp [partOk] at h
  exact ⟨h.1.2, h.2⟩
theorem partOk_len {v : V} (h : partOk v = true) : v.items.length ≤ 32 ∧ v.keys.length ≤ 32 := by
  obtain ⟨k, b, t, ks, is⟩ := v
  unfold partOk at h
  simp only [V.items, V.keys]
  repeat' split at h
  all_goals (simp at h; try grind)
/-! ### steps -/
def V.fnd (v : V) (s : StT) : Nat × Int :=
  if s.isKey = true then (if v.kind = 5 then (low v.keys s.key, if v.keys[low v.keys s.key]? = some s.key then 0 else 71) else (0, 81))
  else if v.kind = 4 then (if s.index < 0 ∨ (v.items.length : Int) ≤ s.index then (0, 82) else (s.index.toNat, 0)) else (0, 81)
theorem V.fnd_lt {v : V} {s : StT} (hv : partOk v = true) (h : (v.fnd s).2 = 0) : (v.fnd s).1 < v.items.length := by
  unfold V.fnd at h ⊢
  split
  · rename_i h1
    rw [if_pos h1] at h
    split
    · rename_i h2
      rw [if_pos h2] at h
      simp only at h ⊢
      split at h
      · rename_i h3
        rw [← (partOk_rec hv h2).1]
        exact (List.getElem?_eq_some_iff.1 h3).1
      · simp at h
    · rename_i h2
      rw [if_neg h2] at h
      simp at h
  · rename_i h1
    rw [if_neg h1] at h
    split
    · rename_i h2
      rw [if_pos h2] at h
      split
      · rename_i h3
        rw [if_pos h3] at h
        simp at h
      · simp only; omega
    · rename_i h2
      rw [if_neg h2] at h
      simp at h
def V.kid (v : V) (i : Nat) : V := v.items.getD i .nil
def V.setAt (v : V) (i : Nat) (x : V) : V := .mk v.kind v.bits v.text v.keys (v.items.set i x)
def V.ins (v : V) (s : StT) (i : Nat) (x : V) : V := .mk v.kind v.bits v.text (if s.isKey = true then v.keys.take i ++ [s.key] ++ v.keys.drop i else v.keys) (v.items.take i ++ [x] ++ v.items.drop i)
def V.grw (v : V) (s : StT) (i : Nat) (e : Int) : Nat × Int :=
  if e = 71 ∧ keyOk s.key = false then (0, 31) else if e = 82 ∧ s.index = v.items.length then (if 32 ≤ v.items.length then (0, 3) else (v.items.length, 0)) else if e ≠ 71 then (0, e) else if 32 ≤ v.items.length then (0, 3) else (i, 0)
def V.put (v : V) (s : StT) (x : V) : V × Int :=
  if (v.fnd s).2 = 0 then (v.setAt (v.fnd s).1 x, 0) else if (v.grw s (v.fnd s).1 (v.fnd s).2).2 = 0 then (v.ins s (v.grw s (v.fnd s).1 (v.fnd s).2).1 x, 0) else (.nil, (v.grw s (v.fnd s).1 (v.fnd s).2).2)
def V.set : V → List StT → V → V × Int
  | _, [], x => (x, 0)
  | v, [s], x => v.put s x
  | v, s :: t :: r, x => if (v.fnd s).2 ≠ 0 then (.nil, (v.fnd s).2) else if (V.set (v.kid (v.fnd s).1) (t :: r) x).2 ≠ 0 then (.nil, (V.set (v.kid (v.fnd s).1) (t :: r) x).2) else (v.setAt (v.fnd s).1 (V.set (v.kid (v.fnd s).1) (t :: r) x).1, 0)
def V.setv (v : V) (p : List StT) (x : V) : V × Int :=
  if v.err ≠ 0 then (.nil, v.err) else if x.err ≠ 0 then (.nil, x.err) else if (v.set p x).2 ≠ 0 then (.nil, (v.set p x).2) else if (v.set p x).1.err ≠ 0 then (.nil, (v.set p x).1.err) else ((v.set p x).1, 0)
def V.walk : V → List StT → V × Int
  | v, [] => (v, 0)
  | v, s :: r => if (v.fnd s).2 ≠ 0 then (.nil, (v.fnd s).2) else V.walk (v.kid (v.fnd s).1) r
def V.getv (v : V) (p : List StT) : V × Int := if v.err ≠ 0 then (.nil, v.err) else v.walk p
theorem V.kid_mem {v : V} {i : Nat} (h : i < v.items.length) : v.kid i ∈ v.items := by
  unfold V.kid; simp [List.getD, h]
theorem V.kid_eq {v : V} {i : Nat} (h : i < v.items.length) : v.kid i = v.items[i] := by
  unfold V.kid; simp [List.getD, h]
theorem V.wf.kid {v : V} (h : v.wf) {x : V} (hx : x ∈ v.items) : x.wf := by obtain ⟨k, b, t, ks, is⟩ := v; exact h.inv.2.2.2.2.2.2 x hx
theorem V.setAt_wf {v x : V} {i : Nat} (h : v.wf) (hx : x.wf) : (v.setAt i x).wf := by
  obtain ⟨k, b, t, ks, is⟩ := v
  obtain ⟨h1, h2, h3, h4, h5, h6, h7⟩ := h.inv
  exact .mk h1 h2 h3 h4 (by simpa [V.items] using h5) h6 fun y hy => (List.mem_or_eq_of_mem_set hy).elim (h7 y) fun e => e ▸ hx
theorem V.ins_wf {v x : V} {s : StT} {i : Nat} (h : v.wf) (hf : partOk v = true) (hs : s.wf) (hx : x.wf) : (v.ins s i x).wf := by
  obtain ⟨k, b, t, ks, is⟩ := v
  obtain ⟨h1, h2, h3, h4, h5, h6, h7⟩ := h.inv
  obtain ⟨l1, l2⟩ := partOk_len hf
  simp only [V.items, V.keys] at l1 l2
  refine .mk h1 h2 h3 ?_ ?_ ?_ ?_
  · simp only [V.keys]
    split
    · simp only [List.length_append, List.length_take, List.length_drop, List.length_singleton]; unfold reach; omega
    · exact h4
  · simp only [V.items, List.length_append, List.length_take, List.length_drop, List.length_singleton]; unfold reach; omega
  · simp only [V.keys]
    intro z hz
    split at hz
    · simp only [List.mem_append, List.mem_singleton] at hz
      rcases hz with (hz | rfl) | hz
      · exact h6 z (List.mem_of_mem_take hz)
      · exact hs.k
      · exact h6 z (List.mem_of_mem_drop hz)
    · exact h6 z hz
  · simp only [V.items]
    intro z hz
    simp only [List.mem_append, List.mem_singleton] at hz
    rcases hz with (hz | rfl) | hz
    · exact h7 z (List.mem_of_mem_take hz)
    · exact hx
    · exact h7 z (List.mem_of_mem_drop hz)
theorem V.put_wf {v x : V} {s : StT} (h : v.wf) (hf : partOk v = true) (hs : s.wf) (hx : x.wf) : (v.put s x).1.wf := by
  unfold V.put
  split
  · exact V.setAt_wf h hx
  · split
    · exact V.ins_wf h hf hs hx
    · exact V.wf_nil
theorem V.set_wf : ∀ {p : List StT} {v x : V}, v.wf → v.Fine → (∀ s ∈ p, s.wf) → x.wf → (v.set p x).1.wf
  | [], v, x, _, _, _, hx => hx
  | [s], v, x, h, hf, hs, hx => V.put_wf h hf.part (hs s (by simp)) hx
  | s :: t :: r, v, x, h, hf, hs, hx => by
    unfold V.set
    split
    · exact V.wf_nil
    · rename_i he
      have hlt := V.fnd_lt hf.part (by simpa using he)
      split
      · exact V.wf_nil
      · exact V.setAt_wf h (V.set_wf (h.kid (V.kid_mem hlt)) (hf.kid (V.kid_mem hlt)) (fun s hs' => hs s (List.mem_cons_of_mem _ hs')) hx)
theorem V.setv_wf {v x : V} {p : List StT} (h : v.wf) (hs : ∀ s ∈ p, s.wf) (hx : x.wf) : (v.setv p x).1.wf := by
  unfold V.setv
  split
  · exact V.wf_nil
  · rename_i he
    split
    · exact V.wf_nil
    · split
      · exact V.wf_nil
      · split
        · exact V.wf_nil
        · exact V.set_wf h (V.fine_of (by simpa using he)) hs hx
end Go.Proofs.YtjhonjdhanlbkaaGreat.J

/- The order of values, as plain data. -/
namespace Go.Proofs.YtjhonjdhanlbkaaGreat.J
open Go Go.RowKit
def cmpI (a b : Int) : Int := if a < b then -1 else if b < a then 1 else 0
def cmpS (a b : Str) : Int := if Op.bytesLess a b then -1 else if Op.bytesLess b a then 1 else 0
def orI (a b : Int) : Int := if a ≠ 0 then a else b
def cmpK : List Str → List Str → Int
  | [], [] => 0
  | [], _ :: _ => -1
  | _ :: _, [] => 1
  | x :: r, y :: s => orI (cmpS x y) (cmpK r s)
def V.numb (k : Int) (b : Nat) : Nat := if k = 2 then orderN b else b
mutual
def V.ord : V → V → Int
  | .mk k b t ks is, .mk k' b' t' ks' is' => orI (cmpI k k') (orI (cmpI (V.numb k b) (V.numb k b')) (orI (cmpS t t') (orI (cmpK ks ks') (V.ords is is'))))
def V.ords : List V → List V → Int
  | [], [] => 0
  | [], _ :: _ => -1
  | _ :: _, [] => 1
  | x :: r, y :: s => orI (x.ord y) (V.ords r s)
end
def V.cmp (a b : V) : Int × Int := if a.err ≠ 0 then (0, a.err) else if b.err ≠ 0 then (0, b.err) else (a.ord b, 0)
def V.one (a b : V) : Bool := (a.cmp b).1 == 0 && (a.cmp b).2 == 0
end Go.Proofs.YtjhonjdhanlbkaaGreat.J

/- Numbers: what can be written exactly is; the floor and what is cut off, as whole numbers. -/
namespace Go.Proofs.YtjhonjdhanlbkaaGreat.J
open Go Go.RowKit
theorem cut_exact (way : Ieee.Toward) (s : Bool) (k d : Nat) : way.cut s (k * 2 ^ d) d = k := by
  have hg : ∃ g, (1 <<< min d ((k * 2 ^ d).log2 + 2) = g) ∧ 0 < g ∧ (k * 2 ^ d) / g = k ∧ (k * 2 ^ d) % g = 0 := by
    refine ⟨_, rfl, ?_, ?_⟩
    · rw [Nat.shiftLeft_eq, Nat.one_mul]; exact Nat.two_pow_pos _
    · rw [Nat.shiftLeft_eq, Nat.one_mul]
      by_cases hk : k = 0
      · subst hk; simp
      · have hd : d ≤ (k * 2 ^ d).log2 := by
          rw [Nat.le_log2 (Nat.mul_ne_zero hk (Nat.ne_of_gt (Nat.two_pow_pos _)))]
          exact Nat.le_mul_of_pos_left _ (Nat.pos_of_ne_zero hk)
        rw [Nat.min_eq_left (by omega)]
        exact ⟨Nat.mul_div_cancel _ (Nat.two_pow_pos _), Nat.mul_mod_left _ _⟩
  obtain ⟨g, h1, h2, h3, h4⟩ := hg
  unfold Ieee.Toward.cut
  simp only [h1, h3, h4]
  cases way <;> simp <;> omega
theorem cut_zero (way : Ieee.Toward) (s : Bool) (k : Nat) : way.cut s k 0 = k := by
  have := cut_exact way s k 0
  rwa [Nat.pow_zero, Nat.mul_one] at this
theorem magn_zero : magn 0 = 0 := by decide
theorem magn_eq0 {r : Nat} (h : magn r = 0) : r = 0 := magn_inj.2.1 (h.trans magn_zero.symm)
theorem log_bounds {m i V : Nat} (hm : m ≠ 0) (h : m * 2 ^ i = V) : 2 ^ (m.log2 + i) ≤ V ∧ V < 2 ^ (m.log2 + i + 1) := by
  have h1 : 2 ^ m.log2 ≤ m := (Nat.le_log2 hm).1 (Nat.le_refl _)
  have h2 : m < 2 ^ (m.log2 + 1) := (Nat.log2_lt hm).1 (by omega)
  subst h
  rw [Nat.pow_add, show m.log2 + i + 1 = (m.log2 + 1) + i by omega, Nat.pow_add 2 (m.log2 + 1)]
  exact ⟨Nat.mul_le_mul_right _ h1, Nat.mul_lt_mul_of_pos_right h2 (Nat.two_pow_pos _)⟩
theorem pow_lt {a b : Nat} (h : 2 ^ a < 2 ^ b) : a < b := (Nat.pow_lt_pow_iff_right (by decide)).1 h
theorem mul_pow_sub {m i a q : Nat} (h : m * 2 ^ i = q * 2 ^ a) (ha : a ≤ i) : m * 2 ^ (i - a) = q := by
  have : m * 2 ^ (i - a) * 2 ^ a = q * 2 ^ a := by rw [Nat.mul_assoc, ← Nat.pow_add, Nat.sub_add_cancel ha, h]
  exact Nat.eq_of_mul_eq_mul_right (Nat.two_pow_pos _) this
theorem nearest_at {s : Bool} {m : Nat} {i : Nat} (hm : m ≠ 0) (a : Nat) (ha : (a : Int) = max ((m.log2 : Int) + i - 52) 0) :
    Ieee.double.nearest s m (leastP + i) = Ieee.double.word s (min (a * 2 ^ 52 + Ieee.Toward.even.cut s (m * 2 ^ (i - a)) (a - i)) infR) := by
  unfold Ieee.Format.nearest
  rw [if_neg hm]
  have hl : max (leastP + (i : Int) + (m.log2 : Int) - ((Ieee.double.fractionBits : Nat) : Int)) Ieee.double.leastPlace = leastP + (a : Int) := by
    have e : Ieee.double.leastPlace = leastP := by decide
    have e2 : ((Ieee.double.fractionBits : Nat) : Int) = 52 := by decide
    rw [e, e2, ha]
    omega
  simp only [hl]
  have e3 : Ieee.double.leastPlace = leastP := by decide
  rw [e3, show (leastP + (i : Int) - (leastP + (a : Int))).toNat = i - a by omega, show (leastP + (a : Int) - (leastP + (i : Int))).toNat = a - i by omega, show (leastP + (a : Int) - leastP).toNat = a by omega, Nat.shiftLeft_eq]
  rfl
theorem nearest_exact {s : Bool} {m r : Nat} (i : Nat) (h : m * 2 ^ i = magn r) (hf : r < infR) : Ieee.double.nearest s m (leastP + i) = Ieee.double.word s r := by
  by_cases hm : m = 0
  · subst hm
    rw [Nat.zero_mul] at h
    rw [magn_eq0 h.symm]
    simp [Ieee.Format.nearest]
  · have hb := log_bounds hm h
    by_cases h1 : r < 2 ^ 52
    · have hv : magn r = r := by simp [magn, h1]
      rw [hv] at h hb
      have : m.log2 + i < 52 := pow_lt (Nat.lt_of_le_of_lt hb.1 h1)
      rw [nearest_at hm 0 (by omega), Nat.sub_zero, Nat.zero_sub, cut_zero, h, Nat.zero_mul, Nat.zero_add, Nat.min_eq_left (Nat.le_of_lt hf)]
    · obtain ⟨a, f, hr, hff, hv⟩ : ∃ a f, r = (a + 1) * 2 ^ 52 + f ∧ f < 2 ^ 52 ∧ magn r = (2 ^ 52 + f) * 2 ^ a :=
        ⟨r / 2 ^ 52 - 1, r % 2 ^ 52, by omega, Nat.mod_lt _ (by decide), by simp [magn, h1]⟩
      rw [hv] at h hb
      have hp := Nat.two_pow_pos a
      have e1 : 2 ^ (m.log2 + i) < 2 ^ (53 + a) := by
        refine Nat.lt_of_le_of_lt hb.1 ?_
        rw [Nat.pow_add]
        exact Nat.mul_lt_mul_of_pos_right (by omega) hp
      have e2 : 2 ^ (52 + a) < 2 ^ (m.log2 + i + 1) := by
        refine Nat.lt_of_le_of_lt ?_ hb.2
        rw [Nat.pow_add]
        exact Nat.mul_le_mul_right _ (by omega)
      have e3 := pow_lt e1
      have e4 := pow_lt e2
      have hk : Ieee.Toward.even.cut s (m * 2 ^ (i - a)) (a - i) = 2 ^ 52 + f := by
        by_cases hia : a ≤ i
        · rw [show a - i = 0 by omega, cut_zero, mul_pow_sub h hia]
        · rw [show i - a = 0 by omega, Nat.pow_zero, Nat.mul_one, ← mul_pow_sub h.symm (by omega), cut_exact]
      rw [nearest_at hm a (by omega), hk, show a * 2 ^ 52 + (2 ^ 52 + f) = r by omega, Nat.min_eq_left (Nat.le_of_lt hf)]
def uP : Nat := 1074
theorem uP_eq : uP = 1074 := rfl
def unitV : Nat := 2 ^ uP
theorem unit_eq : unitV = 2 ^ uP := rfl
theorem whole_rung {k : Nat} (h : k ≤ 2 ^ 53) : ∃ r, r < infR ∧ magn r = k * unitV ∧ r ≤ 1076 * 2 ^ 52 := by
  have hu := unit_eq
  by_cases h0 : k = 0
  · exact ⟨0, by decide, by rw [h0, Nat.zero_mul]; exact magn_zero, by decide⟩
  by_cases h1 : k = 2 ^ 53
  · refine ⟨1076 * 2 ^ 52, by decide, ?_, Nat.le_refl _⟩
    unfold magn
    rw [if_neg (by omega), show 1076 * 2 ^ 52 % 2 ^ 52 = 0 by omega, show 1076 * 2 ^ 52 / 2 ^ 52 - 1 = 1 + uP by have := uP_eq; omega, Nat.add_zero, h1, hu, Nat.pow_add, ← Nat.mul_assoc]
  · have hl : k.log2 < 53 := (Nat.log2_lt h0).2 (by omega)
    have a1 : 2 ^ k.log2 ≤ k := (Nat.le_log2 h0).1 (Nat.le_refl _)
    have a2 : k < 2 ^ (k.log2 + 1) := (Nat.log2_lt h0).1 (by omega)
    have b1 : 2 ^ 52 ≤ k * 2 ^ (52 - k.log2) := by
      have := Nat.mul_le_mul_right (2 ^ (52 - k.log2)) a1
      rwa [← Nat.pow_add, Nat.add_sub_cancel' (show k.log2 ≤ 52 by omega)] at this
    have b2 : k * 2 ^ (52 - k.log2) < 2 ^ 53 := by
      have := Nat.mul_lt_mul_of_pos_right a2 (Nat.two_pow_pos (52 - k.log2))
      rwa [← Nat.pow_add, show k.log2 + 1 + (52 - k.log2) = 53 by omega] at this
    refine ⟨(k.log2 + 1023) * 2 ^ 52 + (k * 2 ^ (52 - k.log2) - 2 ^ 52), ?_, ?_, by omega⟩
    · unfold infR; omega
    · unfold magn
      rw [if_neg (by omega), show ((k.log2 + 1023) * 2 ^ 52 + (k * 2 ^ (52 - k.log2) - 2 ^ 52)) % 2 ^ 52 = k * 2 ^ (52 - k.log2) - 2 ^ 52 by omega,
        show ((k.log2 + 1023) * 2 ^ 52 + (k * 2 ^ (52 - k.log2) - 2 ^ 52)) / 2 ^ 52 - 1 = k.log2 + 1022 by omega, Nat.add_sub_cancel' b1, Nat.mul_assoc, ← Nat.pow_add, hu]
      have e : 52 - k.log2 + (k.log2 + 1022) = uP := by rw [uP_eq]; omega
      rw [e]
theorem unit_pos : 0 < unitV := by rw [unit_eq]; exact Nat.two_pow_pos _
theorem magn_part {r : Nat} (h : magn r % unitV ≠ 0) : magn r < 2 ^ 52 * unitV := by
  have hu := unit_eq
  unfold magn at *
  split at h
  · rename_i h1
    rw [if_pos h1]
    exact Nat.lt_of_lt_of_le h1 (Nat.le_mul_of_pos_right _ unit_pos)
  · rename_i h1
    rw [if_neg h1]
    have ha : r / 2 ^ 52 - 1 < uP := by
      apply Nat.lt_of_not_le
      intro hle
      apply h
      obtain ⟨c, hc⟩ := Nat.exists_eq_add_of_le hle
      rw [hc, Nat.pow_add, ← hu, Nat.mul_comm unitV, ← Nat.mul_assoc]
      exact Nat.mul_mod_left _ _
    have hf : r % 2 ^ 52 < 2 ^ 52 := Nat.mod_lt _ (by decide)
    obtain ⟨w, hw⟩ : ∃ w, uP = 1 + w := ⟨1073, rfl⟩
    calc (2 ^ 52 + r % 2 ^ 52) * 2 ^ (r / 2 ^ 52 - 1) ≤ (2 ^ 52 + r % 2 ^ 52) * 2 ^ w := Nat.mul_le_mul_left _ (Nat.pow_le_pow_right (by decide) (by omega))
      _ < (2 ^ 52 * 2 ^ 1) * 2 ^ w := Nat.mul_lt_mul_of_pos_right (by omega) (Nat.two_pow_pos _)
      _ = 2 ^ 52 * unitV := by rw [hu, hw, Nat.pow_add 2 1 w, Nat.mul_assoc]
def wholeK (way : Ieee.Toward) (s : Bool) (V : Nat) : Nat := V / unitV + (way == .down && s && V % unitV != 0).toNat
theorem integral_fin (way : Ieee.Toward) (hw : way = .down ∨ way = .zero) {s : Bool} {m a : Nat} :
    (Ieee.Datum.number s m (leastP + a)).integral way = .number s (wholeK way s (m * 2 ^ a)) (leastP + (uP : Nat)) := by
  show Ieee.Datum.number s (way.cut s (m <<< (leastP + (a : Int)).toNat) (-(leastP + (a : Int))).toNat) 0 = _
  have hp := uP_eq
  have e0 : leastP + ((uP : Nat) : Int) = 0 := by decide
  rw [e0]
  congr 1
  have hu := unit_eq
  rw [Nat.shiftLeft_eq]
  have hl : leastP = -1074 := rfl
  by_cases h : uP ≤ a
  · obtain ⟨c, rfl⟩ := Nat.exists_eq_add_of_le h
    rw [show (leastP + ((uP + c : Nat) : Int)).toNat = c by omega, show (-(leastP + ((uP + c : Nat) : Int))).toNat = 0 by omega, cut_zero]
    unfold wholeK
    have e : m * 2 ^ (uP + c) = m * 2 ^ c * unitV := by rw [Nat.pow_add, ← hu, Nat.mul_comm unitV, Nat.mul_assoc]
    rw [e, Nat.mul_div_cancel _ unit_pos, Nat.mul_mod_left]
    simp
  · rw [show (leastP + (a : Int)).toNat = 0 by omega, Nat.pow_zero, Nat.mul_one]
    obtain ⟨d, hd⟩ : ∃ d, (-(leastP + (a : Int))).toNat = d ∧ d + a = uP := ⟨_, rfl, by omega⟩
    rw [hd.1]
    have hU : unitV = 2 ^ d * 2 ^ a := by rw [← Nat.pow_add, hd.2, hu]
    have q1 : m * 2 ^ a / unitV = m / 2 ^ d := by rw [hU]; exact Nat.mul_div_mul_right _ _ (Nat.two_pow_pos _)
    have q2 : m * 2 ^ a % unitV = m % 2 ^ d * 2 ^ a := by rw [hU]; exact Nat.mul_mod_mul_right _ _ _
    have q3 : (m * 2 ^ a % unitV != 0) = (m % 2 ^ d != 0) := by
      rw [q2, Bool.eq_iff_iff]
      have := Nat.ne_of_gt (Nat.two_pow_pos a)
      simp only [bne_iff_ne, ne_eq, Nat.mul_eq_zero, this, or_false]
    unfold wholeK
    rw [q1, q3]
    unfold Ieee.Toward.cut
    have hg : ∃ g, 1 <<< min d (m.log2 + 2) = g ∧ m / g = m / 2 ^ d ∧ m % g = m % 2 ^ d := by
      refine ⟨_, rfl, ?_⟩
      rw [Nat.shiftLeft_eq, Nat.one_mul]
      by_cases hle : d ≤ m.log2 + 2
      · rw [Nat.min_eq_left hle]; exact ⟨rfl, rfl⟩
      · rw [Nat.min_eq_right (by omega)]
        have l1 : m < 2 ^ (m.log2 + 2) := by
          by_cases hm : m = 0
          · subst hm; exact Nat.two_pow_pos _
          · exact Nat.lt_trans ((Nat.log2_lt hm).1 (Nat.lt_succ_self _)) (Nat.pow_lt_pow_right (by decide) (by omega))
        have l2 : m < 2 ^ d := Nat.lt_of_lt_of_le l1 (Nat.pow_le_pow_right (by decide) (by omega))
        rw [Nat.div_eq_of_lt l1, Nat.div_eq_of_lt l2, Nat.mod_eq_of_lt l1, Nat.mod_eq_of_lt l2]
        exact ⟨rfl, rfl⟩
    obtain ⟨g, g1, g2, g3⟩ := hg
    simp only [g1, g2, g3]
    rcases hw with rfl | rfl
    · rfl
    · simp
theorem write_number {s : Bool} {k i r : Nat} (h : k * 2 ^ i = magn r) (hf : r < infR) : Ieee.double.write (.number s k (leastP + i)) = Ieee.double.word s r := nearest_exact i h hf
theorem integral_word (way : Ieee.Toward) (hw : way = .down ∨ way = .zero) {b : Nat} (hb : rung b < infR) :
    ∃ r, r < infR ∧ Ieee.double.write ((rdw b).integral way) = Ieee.double.word (sgn b) r ∧ magn r = wholeK way (sgn b) (magn (rung b)) * unitV := by
  obtain ⟨m, a, hd, hm⟩ := rdw_finite hb
  rw [hd, integral_fin way hw, hm]
  have key : ∃ r, r < infR ∧ magn r = wholeK way (sgn b) (magn (rung b)) * unitV := by
    by_cases hz : magn (rung b) % unitV = 0
    · refine ⟨rung b, hb, ?_⟩
      unfold wholeK
      rw [hz]
      have := Nat.div_add_mod (magn (rung b)) unitV
      rw [hz, Nat.add_zero, Nat.mul_comm] at this
      simp [this]
    · have h1 : magn (rung b) / unitV < 2 ^ 52 := (Nat.div_lt_iff_lt_mul unit_pos).2 (magn_part hz)
      have hb1 : ∀ b : Bool, b.toNat ≤ 1 := fun b => by cases b <;> decide
      have h2 : wholeK way (sgn b) (magn (rung b)) ≤ 2 ^ 53 := by unfold wholeK; have := hb1 (way == .down && sgn b && magn (rung b) % unitV != 0); omega
      obtain ⟨r, r1, r2, _⟩ := whole_rung h2
      exact ⟨r, r1, r2⟩
  obtain ⟨r, r1, r2⟩ := key
  exact ⟨r, r1, write_number (by rw [r2, unit_eq]) r1, r2⟩
end Go.Proofs.YtjhonjdhanlbkaaGreat.J

/- Numbers: the laws of the floor, of whole numbers there and back, and of the page's own answers. -/
namespace Go.Proofs.YtjhonjdhanlbkaaGreat.J
open Go Go.RowKit
def svF (s : Bool) (V : Nat) : Int := if s then -(V : Int) else V
theorem word_parts {s : Bool} {r : Nat} (h : r < infR) : rung (Ieee.double.word s r) = r ∧ sgn (Ieee.double.word s r) = s ∧ Ieee.double.word s r < 2 ^ 64 := word_rung (Nat.lt_trans h infR_lt)
end Go.Proofs.YtjhonjdhanlbkaaGreat.J

/- Numbers: whole numbers there and back, and the page's own floor. -/
namespace Go.Proofs.YtjhonjdhanlbkaaGreat.J
open Go Go.RowKit
def isWhole (b : Nat) : Prop := magn (rung b) % unitV = 0
instance (b : Nat) : Decidable (isWhole b) := inferInstanceAs (Decidable (_ = _))
def mostR : Nat := 1076 * 2 ^ 52
def intE (b : Nat) : Int := if infR ≤ rung b ∨ ¬ isWhole b then 7 else if mostR < rung b then 4 else 0
def intV (b : Nat) : Int := if infR ≤ rung b ∨ ¬ isWhole b ∨ mostR < rung b then 0 else svF (sgn b) (magn (rung b) / unitV)
theorem magn_most : magn mostR = 2 ^ 53 * unitV := by
  obtain ⟨r, h1, h2, h3⟩ := whole_rung (k := 2 ^ 53) (Nat.le_refl _)
  have hu := unit_eq
  rw [show mostR = 1076 * 2 ^ 52 from rfl]
  unfold magn
  rw [if_neg (by omega), show 1076 * 2 ^ 52 % 2 ^ 52 = 0 by omega, show 1076 * 2 ^ 52 / 2 ^ 52 - 1 = 1 + uP by have := uP_eq; omega, Nat.add_zero, hu, Nat.pow_add, ← Nat.mul_assoc]
theorem whole_mul {V : Nat} (h : V % unitV = 0) : V / unitV * unitV = V := by
  have := Nat.div_add_mod V unitV
  rw [h, Nat.add_zero, Nat.mul_comm] at this
  exact this
theorem trunc_whole {b : Nat} (hb : b < 2 ^ 64) (hf : rung b < infR) : (ford b (truncN b) != some .eq) = !decide (isWhole b) := by
  obtain ⟨r, h1, h2, h3⟩ := integral_word .zero (.inr rfl) hf
  obtain ⟨w1, w2, w3⟩ := word_parts (s := sgn b) h1
  have e : truncN b = Ieee.double.word (sgn b) r := h2
  have hk : wholeK .zero (sgn b) (magn (rung b)) = magn (rung b) / unitV := by unfold wholeK; simp
  rw [hk] at h3
  have n1 : isNan b = false := by rw [isNan_eq]; exact decide_eq_false (by omega)
  have n2 : isNan (truncN b) = false := by rw [e]; exact isNan_word (Nat.le_of_lt h1)
  have h4 : (sr b = sr (truncN b)) ↔ isWhole b := by
    unfold sr
    rw [e, w1, w2]
    have : rung b = r ↔ isWhole b := by
      constructor
      · intro h; unfold isWhole; rw [h, h3]; exact Nat.mul_mod_left _ _
      · intro h; rw [whole_mul h] at h3; exact (magn_inj.2.1 h3).symm
    rw [← this]
    split <;> omega
  have h5 := ford_eql n1 n2
  rw [bne, h5]
  rw [decide_eq_decide.2 h4]
theorem trunc_int {b : Nat} (hf : rung b < infR) : (FloatKind.f64.decode b).toInt .zero = some (svF (sgn b) (magn (rung b) / unitV)) := by
  obtain ⟨m, a, hd, hm⟩ := rdw_finite hf
  show (rdw b).toInt .zero = _
  unfold Ieee.Datum.toInt
  rw [hd, integral_fin .zero (.inr rfl), hm]
  show some (Ieee.signed (sgn b) _ 0) = _
  have hk : wholeK .zero (sgn b) (magn (rung b)) = magn (rung b) / unitV := by unfold wholeK; simp
  rw [signed_eq, hk, Int.pow_zero, Int.mul_one]; rfl
theorem small_whole {b : Nat} (h : rung b ≤ mostR) : magn (rung b) / unitV ≤ 2 ^ 53 := by
  have h1 : ¬ magn mostR < magn (rung b) := fun h' => by have := magn_inj.1.1 h'; omega
  rw [magn_most] at h1
  have := Nat.div_le_div_right (c := unitV) (Nat.not_lt.1 h1)
  rwa [Nat.mul_div_cancel _ unit_pos] at this
theorem int_t {b : Nat} (h : infR ≤ rung b ∨ ¬ isWhole b) : intV b = 0 ∧ intE b = 7 := by
  unfold intV intE
  exact ⟨if_pos (h.elim .inl fun h => .inr (.inl h)), if_pos h⟩
theorem int_r {b : Nat} (hf : rung b < infR) (hw : isWhole b) (h : mostR < rung b) : intV b = 0 ∧ intE b = 4 := by
  unfold intV intE
  exact ⟨if_pos (.inr (.inr h)), by rw [if_neg (fun h' => h'.elim (fun h => by omega) (fun h => h hw)), if_pos h]⟩
theorem int_o {b : Nat} (hf : rung b < infR) (hw : isWhole b) (h : rung b ≤ mostR) : intV b = svF (sgn b) (magn (rung b) / unitV) ∧ intE b = 0 := by
  unfold intV intE
  exact ⟨if_neg (fun h' => h'.elim (fun h => by omega) (fun h' => h'.elim (fun h => h hw) (fun h => by omega))), by rw [if_neg (fun h' => h'.elim (fun h => by omega) (fun h => h hw)), if_neg (by omega)]⟩
theorem sv_fits {s : Bool} {K : Nat} (h : K ≤ 2 ^ 53) : -9223372036854775808 ≤ svF s K ∧ svF s K ≤ 9223372036854775807 := by
  unfold svF; split <;> omega
theorem nearest_lt {n : Int} : FloatKind.f64.nearest n < 2 ^ 64 := write_lt64 (.number (n < 0) n.natAbs 0)
theorem near_word {n : Int} (h : -9007199254740992 ≤ n ∧ n ≤ 9007199254740992) : ∃ r, r < infR ∧ r ≤ mostR ∧ FloatKind.f64.nearest n = Ieee.double.word (decide (n < 0)) r ∧ magn r = n.natAbs * unitV := by
  obtain ⟨r, h1, h2, h3⟩ := whole_rung (k := n.natAbs) (by omega)
  refine ⟨r, h1, h3, ?_, h2⟩
  have e0 : leastP + ((uP : Nat) : Int) = 0 := by decide
  show Ieee.double.write (.number (decide (n < 0)) n.natAbs 0) = _
  rw [← e0]
  exact write_number (by rw [h2, unit_eq]) h1
/-! ### the page's own floor -/
end Go.Proofs.YtjhonjdhanlbkaaGreat.J

/- Walks: the order of numbers, for the seats that reach no more of floats. -/
namespace Go.Proofs.YtjhonjdhanlbkaaGreat.J
open Go Go.RowKit
set_option maxRecDepth 10000
set_option maxHeartbeats 4000000
theorem order_ok (b : Nat) (hb : b < 2 ^ 64) : Fn Tryz.prog 123 [.c (.int .u64 (b : Int))] (.c (.int .u64 (orderN b : Int))) := by
  refine AC.of_J Tryz.func123 rfl Tryz.ntmps123 rfl fun w0 A0 => ?_
  refine J.seq ?_
  refine J.region_lit ?_
  refine JL.q rfl rfl rfl (QW.assign .const) ?_
  refine JL.nil ?_
  refine thenQ.n ?_
  refine J.seq ?_
  refine J.seq ?_
  refine J.region_lit ?_
  refine JL.q rfl rfl rfl (QW.move (.tmp rfl)) ?_
  refine JL.q rfl rfl rfl (QW.ext (extFrom _) (.tmp rfl)) ?_
  refine JL.q rfl rfl rfl (QW.assign (.tmp rfl)) ?_
  refine JL.nil ?_
  refine thenQ.n ?_
  refine J.seq ?_
  refine J.region_lit ?_
  refine JL.q rfl rfl rfl (QW.move (.tmp rfl)) ?_
  refine JL.q rfl rfl rfl (QW.move (.tmp rfl)) ?_
  refine JL.q rfl rfl rfl (QW.neq_f (.tmp rfl) (.tmp rfl)) ?_
  refine JL.nil ?_
  refine thenQ.n ?_
  refine J.cond (.tmp rfl) (fun c1 => ?_) (fun c1 => ?_)
  ·
    rw [fneq_self] at c1
    refine J.seq ?_
    refine J.region_lit ?_
    refine JL.q rfl rfl rfl (QW.assign .const) ?_
    refine JL.nil ?_
    refine thenQ.n ?_
    refine J.ret ?_
    refine thenQ.r ?_
    exact ⟨_, [], _, RetEv.one rfl (REv.tmp rfl (.refl _)), rfl, List.Perm.refl _, by simp [orderN, c1], rfl⟩
  ·
    rw [fneq_self] at c1
    refine J.skip ?_
    refine thenQ.n ?_
    refine J.seq ?_
    refine J.region_lit ?_
    refine JL.q rfl rfl rfl (QW.move (.tmp rfl)) ?_
    refine JL.q rfl rfl rfl (QW.move (.tmp rfl)) ?_
    refine JL.q rfl rfl rfl (QW.conv_int us22 iu2 (.tmp rfl) rfl) ?_
    refine JL.q rfl rfl rfl (QW.shr (.tmp rfl) .const (by first | decide | omega) rfl) ?_
    refine JL.q rfl rfl rfl (QW.conv_int us2 iu22 (.tmp rfl) rfl) ?_
    refine JL.q rfl rfl rfl (QW.or (.tmp rfl) .const rfl) ?_
    refine JL.q rfl rfl rfl (QW.xor (.tmp rfl) (.tmp rfl) rfl) ?_
    refine JL.q rfl rfl rfl (QW.assign (.tmp rfl)) ?_
    refine JL.nil ?_
    refine thenQ.n ?_
    refine J.ret ?_
    exact ⟨_, [], _, RetEv.one rfl (REv.tmp rfl (.refl _)), rfl, List.Perm.refl _, by rw [← order_bits hb c1]; rfl, rfl⟩
end Go.Proofs.YtjhonjdhanlbkaaGreat.J

/- Walks: numbers (the package float): classes, operations, floors. -/
namespace Go.Proofs.YtjhonjdhanlbkaaGreat.J
open Go Go.RowKit
set_option maxRecDepth 10000
set_option maxHeartbeats 4000000
theorem class_fin {b : Nat} : classN b < 4 ↔ rung b < infR := by
  unfold classN
  rw [isNan_eq]
  by_cases h1 : infR < rung b
  · rw [if_pos (by simpa using h1)]; omega
  · rw [if_neg (by simpa using h1)]
    by_cases h2 : rung b = infR
    · rw [if_pos h2]; omega
    · rw [if_neg h2]
      (repeat' split) <;> omega
theorem class_ge {b : Nat} : 4 ≤ classN b ↔ infR ≤ rung b := by
  have := @class_fin b
  omega
theorem abs_ok (b : Nat) (hb : b < 2 ^ 64) : Fn Tryz.prog 131 [.c (flt b)] (.c (flt (b % 2 ^ 63))) := by
  refine AC.of_J Tryz.func131 rfl Tryz.ntmps131 rfl fun w0 A0 => ?_
  refine J.seq ?_
  refine J.region_lit ?_
  refine JL.q rfl rfl rfl (QW.assign .const) ?_
  refine JL.nil ?_
  refine thenQ.n ?_
  refine J.seq ?_
  refine J.region_lit ?_
  refine JL.q rfl rfl rfl (QW.move (.tmp rfl)) ?_
  refine JL.q rfl rfl rfl (QW.ext (extBits _) (.tmp rfl)) ?_
  refine JL.q rfl rfl rfl (QW.andNot (.tmp rfl) .const (absbits b hb)) ?_
  refine JL.q rfl rfl rfl (QW.ext (extFrom _) (.tmp rfl)) ?_
  refine JL.q rfl rfl rfl (QW.assign (.tmp rfl)) ?_
  refine JL.nil ?_
  refine thenQ.n ?_
  refine J.ret ?_
  exact ⟨_, [], _, RetEv.one rfl (REv.tmp rfl (.refl _)), rfl, List.Perm.refl _, rfl, rfl⟩
theorem isinf_ok (b : Nat) (hb : b < 2 ^ 64) : Fn Tryz.prog 141 [.c (flt b), .c (.int .i64 0)] (.c (.bool (decide (rung b = infR)))) := by
  refine AC.of_J Tryz.func141 rfl Tryz.ntmps141 rfl fun w0 A0 => ?_
  refine J.seq ?_
  refine J.region_lit ?_
  refine JL.q rfl rfl rfl (QW.assign .const) ?_
  refine JL.nil ?_
  refine thenQ.n ?_
  refine J.seq ?_
  refine J.seq ?_
  refine J.region_lit ?_
  refine JL.q rfl rfl rfl (QW.move (.tmp rfl)) ?_
  refine JL.q rfl rfl rfl (QW.eql (.tmp rfl) .const) ?_
  refine JL.nil ?_
  refine thenQ.n ?_
  refine J.cond (.tmp rfl) (fun c1 => ?_) (fun c1 => absurd c1 (by decide))
  refine J.region_lit ?_
  refine JL.q rfl rfl rfl (QW.move (.tmp rfl)) ?_
  refine JL.q rfl rfl rfl (QW.call gofn131 (.cons (.tmp rfl) .nil) (by (apply abs_ok <;> first | assumption | omega))) ?_
  refine JL.q rfl rfl rfl (QW.assign (.tmp rfl)) ?_
  refine JL.nil ?_
  refine thenQ.n ?_
  refine J.seq ?_
  refine J.region_lit ?_
  refine JL.q rfl rfl rfl (QW.move (.tmp rfl)) ?_
  refine JL.q rfl rfl rfl (QW.gtr_f (.tmp rfl) .const) ?_
  refine JL.q rfl rfl rfl (QW.assign (.tmp rfl)) ?_
  refine JL.nil ?_
  refine thenQ.n ?_
  refine J.ret ?_
  exact ⟨_, [], _, RetEv.one rfl (REv.tmp rfl (.refl _)), rfl, List.Perm.refl _, by
      by_cases hn : isNan b = true
      · rw [ford_nanL (by rw [isNan_abs]; exact hn)]
        rw [isNan_eq] at hn; simp at hn
        congr 3; simp; omega
      · rw [ford_gt (by rw [isNan_abs]; simpa using hn) (by decide), sr_abs]
        rw [isNan_eq] at hn; simp at hn
        congr 3
        rw [show sr 9218868437227405311 = 9218868437227405311 by decide]
        simp; unfold infR at *; omega, rfl⟩
theorem signbit_ok (b : Nat) (hb : b < 2 ^ 64) : Fn Tryz.prog 146 [.c (flt b)] (.c (.bool (decide (2 ^ 63 ≤ b)))) := by
  refine AC.of_J Tryz.func146 rfl Tryz.ntmps146 rfl fun w0 A0 => ?_
  refine J.seq ?_
  refine J.region_lit ?_
  refine JL.q rfl rfl rfl (QW.assign .const) ?_
  refine JL.nil ?_
  refine thenQ.n ?_
  refine J.seq ?_
  refine J.region_lit ?_
  refine JL.q rfl rfl rfl (QW.move (.tmp rfl)) ?_
  refine JL.q rfl rfl rfl (QW.ext (extBits _) (.tmp rfl)) ?_
  refine JL.q rfl rfl rfl (QW.conv_int us22 iu2 (.tmp rfl) rfl) ?_
  refine JL.q rfl rfl rfl (QW.lss (.tmp rfl) .const) ?_
  refine JL.q rfl rfl rfl (QW.assign (.tmp rfl)) ?_
  refine JL.nil ?_
  refine thenQ.n ?_
  refine J.ret ?_
  exact ⟨_, [], _, RetEv.one rfl (REv.tmp rfl (.refl _)), rfl, List.Perm.refl _, by
      congr 3
      rw [decide_eq_decide]
      by_cases h : 2 ^ 63 ≤ b
      · rw [wrap_i64_hi h hb]; omega
      · rw [w64 (by omega)]; omega, rfl⟩
theorem class_ok (b : Nat) (hb : b < 2 ^ 64) : Fn Tryz.prog 129 [.c (.int .u64 (b : Int))] (.c (.int .i64 (classN b))) := by
  refine AC.of_J Tryz.func129 rfl Tryz.ntmps129 rfl fun w0 A0 => ?_
  refine J.seq ?_
  refine J.region_lit ?_
  refine JL.q rfl rfl rfl (QW.assign .const) ?_
  refine JL.nil ?_
  refine thenQ.n ?_
  refine J.seq ?_
  refine J.region_lit ?_
  refine JL.q rfl rfl rfl (QW.move (.tmp rfl)) ?_
  refine JL.q rfl rfl rfl (QW.ext (extFrom _) (.tmp rfl)) ?_
  refine JL.q rfl rfl rfl (QW.assign (.tmp rfl)) ?_
  refine JL.nil ?_
  refine thenQ.n ?_
  refine J.seq ?_
  refine J.region_lit ?_
  refine JL.q rfl rfl rfl (QW.move (.tmp rfl)) ?_
  refine JL.q rfl rfl rfl (QW.call gofn131 (.cons (.tmp rfl) .nil) (by (apply abs_ok <;> first | assumption | omega))) ?_
  refine JL.q rfl rfl rfl (QW.assign (.tmp rfl)) ?_
  refine JL.nil ?_
  refine thenQ.n ?_
  refine J.seq ?_
  refine J.block ?_
  refine J.seq ?_
  refine J.region_lit ?_
  refine JL.q rfl rfl rfl (QW.move (.tmp rfl)) ?_
  refine JL.q rfl rfl rfl (QW.move (.tmp rfl)) ?_
  refine JL.q rfl rfl rfl (QW.neq_f (.tmp rfl) (.tmp rfl)) ?_
  refine JL.q rfl rfl rfl (QW.assign (.tmp rfl)) ?_
  refine JL.nil ?_
  refine thenQ.n ?_
  refine J.cond (.tmp rfl) (fun c1 => ?_) (fun c1 => ?_)
  ·
    rw [fneq_self] at c1
    refine J.seq ?_
    refine J.region_lit ?_
    refine JL.q rfl rfl rfl (QW.assign .const) ?_
    refine JL.nil ?_
    refine thenQ.n ?_
    refine J.ret ?_
    refine blkQ.r ?_
    refine thenQ.r ?_
    exact ⟨_, [], _, RetEv.one rfl (REv.tmp rfl (.refl _)), rfl, List.Perm.refl _, by simp [classN, c1], rfl⟩
  ·
    rw [fneq_self] at c1
    have ha : isNan (b % 2 ^ 63) = false := by rw [isNan_abs]; exact c1
    refine J.seq ?_
    refine J.region_lit ?_
    refine JL.q rfl rfl rfl (QW.move (.tmp rfl)) ?_
    refine JL.q rfl rfl rfl (QW.call gofn141 (.cons (.tmp rfl) (.cons (by first | exact .const | exact .func | exact Ev.le .const (by exact .nil _ _ _)) .nil)) (by (apply isinf_ok <;> first | assumption | omega))) ?_
    refine JL.q rfl rfl rfl (QW.assign (.tmp rfl)) ?_
    refine JL.nil ?_
    refine thenQ.n ?_
    refine J.cond (.tmp rfl) (fun c2 => ?_) (fun c2 => ?_)
    ·
      simp at c2
      refine J.seq ?_
      refine J.region_lit ?_
      refine JL.q rfl rfl rfl (QW.assign .const) ?_
      refine JL.nil ?_
      refine thenQ.n ?_
      refine J.ret ?_
      refine blkQ.r ?_
      refine thenQ.r ?_
      exact ⟨_, [], _, RetEv.one rfl (REv.tmp rfl (.refl _)), rfl, List.Perm.refl _, by simp [classN, c1, c2], rfl⟩
    ·
      simp at c2
      refine J.seq ?_
      refine J.region_lit ?_
      refine JL.q rfl rfl rfl (QW.move (.tmp rfl)) ?_
      refine JL.q rfl rfl rfl (QW.geq_f (.tmp rfl) .const) ?_
      refine JL.q rfl rfl rfl (QW.assign (.tmp rfl)) ?_
      refine JL.nil ?_
      refine thenQ.n ?_
      refine J.cond (.tmp rfl) (fun c3 => ?_) (fun c3 => ?_)
      ·
        rw [ford_gt ha (by decide), ford_eql ha (by decide), sr_abs, show sr 4503599627370496 = 4503599627370496 by decide] at c3; simp at c3
        refine J.seq ?_
        refine J.region_lit ?_
        refine JL.q rfl rfl rfl (QW.assign .const) ?_
        refine JL.nil ?_
        refine thenQ.n ?_
        refine J.ret ?_
        refine blkQ.r ?_
        refine thenQ.r ?_
        exact ⟨_, [], _, RetEv.one rfl (REv.tmp rfl (.refl _)), rfl, List.Perm.refl _, by unfold classN; rw [c1, if_neg (by decide), if_neg c2, if_pos (by omega)], rfl⟩
      ·
        rw [ford_gt ha (by decide), ford_eql ha (by decide), sr_abs, show sr 4503599627370496 = 4503599627370496 by decide] at c3; simp at c3
        refine J.seq ?_
        refine J.region_lit ?_
        refine JL.q rfl rfl rfl (QW.move (.tmp rfl)) ?_
        refine JL.q rfl rfl rfl (QW.gtr_f (.tmp rfl) .const) ?_
        refine JL.q rfl rfl rfl (QW.assign (.tmp rfl)) ?_
        refine JL.nil ?_
        refine thenQ.n ?_
        refine J.cond (.tmp rfl) (fun c4 => ?_) (fun c4 => ?_)
        ·
          rw [ford_gt ha (by decide), sr_abs, show sr 0 = 0 by decide] at c4; simp at c4
          refine J.seq ?_
          refine J.region_lit ?_
          refine JL.q rfl rfl rfl (QW.assign .const) ?_
          refine JL.nil ?_
          refine thenQ.n ?_
          refine J.ret ?_
          refine blkQ.r ?_
          refine thenQ.r ?_
          exact ⟨_, [], _, RetEv.one rfl (REv.tmp rfl (.refl _)), rfl, List.Perm.refl _, by unfold classN; rw [c1, if_neg (by decide), if_neg c2, if_neg (by omega), if_pos (by omega)], rfl⟩
        ·
          rw [ford_gt ha (by decide), sr_abs, show sr 0 = 0 by decide] at c4; simp at c4
          refine J.seq ?_
          refine J.region_lit ?_
          refine JL.q rfl rfl rfl (QW.move (.tmp rfl)) ?_
          refine JL.q rfl rfl rfl (QW.call gofn146 (.cons (.tmp rfl) .nil) (by (apply signbit_ok <;> first | assumption | omega))) ?_
          refine JL.q rfl rfl rfl (QW.assign (.tmp rfl)) ?_
          refine JL.nil ?_
          refine thenQ.n ?_
          refine J.cond (.tmp rfl) (fun c5 => ?_) (fun c5 => ?_)
          ·
            simp at c5
            refine J.seq ?_
            refine J.region_lit ?_
            refine JL.q rfl rfl rfl (QW.assign .const) ?_
            refine JL.nil ?_
            refine thenQ.n ?_
            refine J.ret ?_
            refine blkQ.r ?_
            refine thenQ.r ?_
            exact ⟨_, [], _, RetEv.one rfl (REv.tmp rfl (.refl _)), rfl, List.Perm.refl _, by unfold classN; rw [c1, if_neg (by decide), if_neg c2, if_neg (by omega), if_neg (by omega), if_pos (by omega)], rfl⟩
          ·
            simp at c5
            refine J.skip ?_
            refine blkQ.n ?_
            refine thenQ.n ?_
            refine J.seq ?_
            refine J.region_lit ?_
            refine JL.q rfl rfl rfl (QW.assign .const) ?_
            refine JL.nil ?_
            refine thenQ.n ?_
            refine J.ret ?_
            exact ⟨_, [], _, RetEv.one rfl (REv.tmp rfl (.refl _)), rfl, List.Perm.refl _, by unfold classN; rw [c1, if_neg (by decide), if_neg c2, if_neg (by omega), if_neg (by omega), if_neg (by omega)], rfl⟩
theorem two_ok (op : BinOp) (g : Nat) (a b : Nat) (hgo : goFn Tryz.prog g = true) (hg : FnR Tryz.prog g [.c (flt a), .c (flt b)] (fun z => ∃ c, z = .c (flt c) ∧ (farithN op a b = some c ∨ (farithN op a b = none ∧ nanAny c)))) : Fn Tryz.prog 115 [.c (.int .u64 (a : Int)), .c (.int .u64 (b : Int)), .c (.func (.func g) #[] #[])] (.c (.int .u64 (arithN op a b : Int))) := by
  refine AC.of_J Tryz.func115 rfl Tryz.ntmps115 rfl fun w0 A0 => ?_
  refine J.seq ?_
  refine J.region_lit ?_
  refine JL.q rfl rfl rfl (QW.assign .const) ?_
  refine JL.nil ?_
  refine thenQ.n ?_
  refine J.seq ?_
  refine J.region_lit ?_
  refine JL.q rfl rfl rfl (QW.move (.tmp rfl)) ?_
  refine JL.q rfl rfl rfl (QW.move (.tmp rfl)) ?_
  refine JL.q rfl rfl rfl (QW.ext (extFrom _) (.tmp rfl)) ?_
  refine JL.q rfl rfl rfl (QW.move (.tmp rfl)) ?_
  refine JL.q rfl rfl rfl (QW.ext (extFrom _) (.tmp rfl)) ?_
  refine JL.callV0 (fi := []) (ca := []) hgo rfl (.tmp rfl) (.cons (.tmp rfl) (.cons (.tmp rfl) .nil)) rfl (hg) ?_
  rintro _ ⟨x12, rfl, h12⟩
  refine JL.q rfl rfl rfl (QW.call gofn96 (.cons (.tmp rfl) .nil) (by (apply of_ok <;> first | assumption | omega))) ?_
  refine JL.q rfl rfl rfl (QW.assign (.tmp rfl)) ?_
  refine JL.nil ?_
  refine thenQ.n ?_
  refine J.ret ?_
  exact ⟨_, [], _, RetEv.one rfl (REv.tmp rfl (.refl _)), rfl, List.Perm.refl _, by rw [arith_canon h12], rfl⟩
theorem fadd_ok (a b : Nat) : FnR Tryz.prog 116 [.c (flt a), .c (flt b)] (fun z => ∃ c, z = .c (flt c) ∧ (farithN .add a b = some c ∨ (farithN .add a b = none ∧ nanAny c))) := by
  refine AC.of_J Tryz.func116 rfl Tryz.ntmps116 rfl fun w0 A0 => ?_
  refine J.seq ?_
  refine J.region_lit ?_
  refine JL.q rfl rfl rfl (QW.assign .const) ?_
  refine JL.nil ?_
  refine thenQ.n ?_
  refine J.seq ?_
  refine J.region_lit ?_
  refine JL.q rfl rfl rfl (QW.move (.tmp rfl)) ?_
  refine JL.q rfl rfl rfl (QW.move (.tmp rfl)) ?_
  refine JL.farith (by decide) (.tmp rfl) (.tmp rfl) rfl fun x7 h7 => ?_
  refine JL.q rfl rfl rfl (QW.assign (.tmp rfl)) ?_
  refine JL.nil ?_
  refine thenQ.n ?_
  refine J.ret ?_
  exact ⟨_, [], _, RetEv.one rfl (REv.tmp rfl (.refl _)), rfl, List.Perm.refl _, rfl, _, rfl, ⟨_, rfl, by assumption⟩⟩
theorem add_ok (a b : Nat) : Fn Tryz.prog 92 [.c (.int .u64 (a : Int)), .c (.int .u64 (b : Int))] (.c (.int .u64 (arithN .add a b : Int))) := by
  refine AC.of_J Tryz.func92 rfl Tryz.ntmps92 rfl fun w0 A0 => ?_
  refine J.seq ?_
  refine J.region_lit ?_
  refine JL.q rfl rfl rfl (QW.assign .const) ?_
  refine JL.nil ?_
  refine thenQ.n ?_
  refine J.seq ?_
  refine J.region_lit ?_
  refine JL.q rfl rfl rfl (QW.move (.tmp rfl)) ?_
  refine JL.q rfl rfl rfl (QW.move (.tmp rfl)) ?_
  refine JL.q rfl rfl rfl (QW.call gofn115 (.cons (.tmp rfl) (.cons (.tmp rfl) (.cons .func .nil))) (two_ok .add _ _ _ gofn116 (fadd_ok _ _))) ?_
  refine JL.q rfl rfl rfl (QW.assign (.tmp rfl)) ?_
  refine JL.nil ?_
  refine thenQ.n ?_
  refine J.ret ?_
  exact ⟨_, [], _, RetEv.one rfl (REv.tmp rfl (.refl _)), rfl, List.Perm.refl _, rfl, rfl⟩
theorem fsub_ok (a b : Nat) : FnR Tryz.prog 117 [.c (flt a), .c (flt b)] (fun z => ∃ c, z = .c (flt c) ∧ (farithN .sub a b = some c ∨ (farithN .sub a b = none ∧ nanAny c))) := by
  refine AC.of_J Tryz.func117 rfl Tryz.ntmps117 rfl fun w0 A0 => ?_
  refine J.seq ?_
  refine J.region_lit ?_
  refine JL.q rfl rfl rfl (QW.assign .const) ?_
  refine JL.nil ?_
  refine thenQ.n ?_
  refine J.seq ?_
  refine J.region_lit ?_
  refine JL.q rfl rfl rfl (QW.move (.tmp rfl)) ?_
  refine JL.q rfl rfl rfl (QW.move (.tmp rfl)) ?_
  refine JL.farith (by decide) (.tmp rfl) (.tmp rfl) rfl fun x7 h7 => ?_
  refine JL.q rfl rfl rfl (QW.assign (.tmp rfl)) ?_
  refine JL.nil ?_
  refine thenQ.n ?_
  refine J.ret ?_
  exact ⟨_, [], _, RetEv.one rfl (REv.tmp rfl (.refl _)), rfl, List.Perm.refl _, rfl, _, rfl, ⟨_, rfl, by assumption⟩⟩
theorem sub_ok (a b : Nat) : Fn Tryz.prog 93 [.c (.int .u64 (a : Int)), .c (.int .u64 (b : Int))] (.c (.int .u64 (arithN .sub a b : Int))) := by
  refine AC.of_J Tryz.func93 rfl Tryz.ntmps93 rfl fun w0 A0 => ?_
  refine J.seq ?_
  refine J.region_lit ?_
  refine JL.q rfl rfl rfl (QW.assign .const) ?_
  refine JL.nil ?_
  refine thenQ.n ?_
  refine J.seq ?_
  refine J.region_lit ?_
  refine JL.q rfl rfl rfl (QW.move (.tmp rfl)) ?_
  refine JL.q rfl rfl rfl (QW.move (.tmp rfl)) ?_
  refine JL.q rfl rfl rfl (QW.call gofn115 (.cons (.tmp rfl) (.cons (.tmp rfl) (.cons .func .nil))) (two_ok .sub _ _ _ gofn117 (fsub_ok _ _))) ?_
  refine JL.q rfl rfl rfl (QW.assign (.tmp rfl)) ?_
  refine JL.nil ?_
  refine thenQ.n ?_
  refine J.ret ?_
  exact ⟨_, [], _, RetEv.one rfl (REv.tmp rfl (.refl _)), rfl, List.Perm.refl _, rfl, rfl⟩
theorem fmul_ok (a b : Nat) : FnR Tryz.prog 118 [.c (flt a), .c (flt b)] (fun z => ∃ c, z = .c (flt c) ∧ (farithN .mul a b = some c ∨ (farithN .mul a b = none ∧ nanAny c))) := by
  refine AC.of_J Tryz.func118 rfl Tryz.ntmps118 rfl fun w0 A0 => ?_
  refine J.seq ?_
  refine J.region_lit ?_
  refine JL.q rfl rfl rfl (QW.assign .const) ?_
  refine JL.nil ?_
  refine thenQ.n ?_
  refine J.seq ?_
  refine J.region_lit ?_
  refine JL.q rfl rfl rfl (QW.move (.tmp rfl)) ?_
  refine JL.q rfl rfl rfl (QW.move (.tmp rfl)) ?_
  refine JL.farith (by decide) (.tmp rfl) (.tmp rfl) rfl fun x7 h7 => ?_
  refine JL.q rfl rfl rfl (QW.assign (.tmp rfl)) ?_
  refine JL.nil ?_
  refine thenQ.n ?_
  refine J.ret ?_
  exact ⟨_, [], _, RetEv.one rfl (REv.tmp rfl (.refl _)), rfl, List.Perm.refl _, rfl, _, rfl, ⟨_, rfl, by assumption⟩⟩
theorem mul_ok (a b : Nat) : Fn Tryz.prog 94 [.c (.int .u64 (a : Int)), .c (.int .u64 (b : Int))] (.c (.int .u64 (arithN .mul a b : Int))) := by
  refine AC.of_J Tryz.func94 rfl Tryz.ntmps94 rfl fun w0 A0 => ?_
  refine J.seq ?_
  refine J.region_lit ?_
  refine JL.q rfl rfl rfl (QW.assign .const) ?_
  refine JL.nil ?_
  refine thenQ.n ?_
  refine J.seq ?_
  refine J.region_lit ?_
  refine JL.q rfl rfl rfl (QW.move (.tmp rfl)) ?_
  refine JL.q rfl rfl rfl (QW.move (.tmp rfl)) ?_
  refine JL.q rfl rfl rfl (QW.call gofn115 (.cons (.tmp rfl) (.cons (.tmp rfl) (.cons .func .nil))) (two_ok .mul _ _ _ gofn118 (fmul_ok _ _))) ?_
  refine JL.q rfl rfl rfl (QW.assign (.tmp rfl)) ?_
  refine JL.nil ?_
  refine thenQ.n ?_
  refine J.ret ?_
  exact ⟨_, [], _, RetEv.one rfl (REv.tmp rfl (.refl _)), rfl, List.Perm.refl _, rfl, rfl⟩
theorem fquo_ok (a b : Nat) : FnR Tryz.prog 119 [.c (flt a), .c (flt b)] (fun z => ∃ c, z = .c (flt c) ∧ (farithN .quo a b = some c ∨ (farithN .quo a b = none ∧ nanAny c))) := by
  refine AC.of_J Tryz.func119 rfl Tryz.ntmps119 rfl fun w0 A0 => ?_
  refine J.seq ?_
  refine J.region_lit ?_
  refine JL.q rfl rfl rfl (QW.assign .const) ?_
  refine JL.nil ?_
  refine thenQ.n ?_
  refine J.seq ?_
  refine J.region_lit ?_
  refine JL.q rfl rfl rfl (QW.move (.tmp rfl)) ?_
  refine JL.q rfl rfl rfl (QW.move (.tmp rfl)) ?_
  refine JL.farith (by decide) (.tmp rfl) (.tmp rfl) rfl fun x7 h7 => ?_
  refine JL.q rfl rfl rfl (QW.assign (.tmp rfl)) ?_
  refine JL.nil ?_
  refine thenQ.n ?_
  refine J.ret ?_
  exact ⟨_, [], _, RetEv.one rfl (REv.tmp rfl (.refl _)), rfl, List.Perm.refl _, rfl, _, rfl, ⟨_, rfl, by assumption⟩⟩
theorem quo_ok (a b : Nat) : Fn Tryz.prog 95 [.c (.int .u64 (a : Int)), .c (.int .u64 (b : Int))] (.c (.int .u64 (arithN .quo a b : Int))) := by
  refine AC.of_J Tryz.func95 rfl Tryz.ntmps95 rfl fun w0 A0 => ?_
  refine J.seq ?_
  refine J.region_lit ?_
  refine JL.q rfl rfl rfl (QW.assign .const) ?_
  refine JL.nil ?_
  refine thenQ.n ?_
  refine J.seq ?_
  refine J.region_lit ?_
  refine JL.q rfl rfl rfl (QW.move (.tmp rfl)) ?_
  refine JL.q rfl rfl rfl (QW.move (.tmp rfl)) ?_
  refine JL.q rfl rfl rfl (QW.call gofn115 (.cons (.tmp rfl) (.cons (.tmp rfl) (.cons .func .nil))) (two_ok .quo _ _ _ gofn119 (fquo_ok _ _))) ?_
  refine JL.q rfl rfl rfl (QW.assign (.tmp rfl)) ?_
  refine JL.nil ?_
  refine thenQ.n ?_
  refine J.ret ?_
  exact ⟨_, [], _, RetEv.one rfl (REv.tmp rfl (.refl _)), rfl, List.Perm.refl _, rfl, rfl⟩
theorem findFloor : Extern.find Tryz.f120 = some (Extern.MathFloor.toIntegral "math.archFloor" .down) := by kernel_rfl
theorem extFloor (b : Nat) (w : World) : (callFunc 120 #[flt b]).run Tryz.prog w = ((Extern.MathFloor.toIntegral "math.archFloor" .down #[flt b]).run Tryz.prog w).andThen fun v w => .ok (.value v) w :=
  callFunc_ext Tryz.func120 (by kernel_rfl) (by kernel_rfl) (by kernel_rfl) findFloor _ _
theorem mfloor_ok (b : Nat) : FnR Tryz.prog 97 [.c (flt b)] (fun z => ∃ c, z = .c (flt c) ∧ ((isNan b = false ∧ c = floorN b) ∨ (isNan b = true ∧ isNan c = true))) := by
  refine AC.of_J Tryz.func97 rfl Tryz.ntmps97 rfl fun w0 A0 => ?_
  refine J.seq ?_
  refine J.region_lit ?_
  refine JL.q rfl rfl rfl (QW.assign .const) ?_
  refine JL.nil ?_
  refine thenQ.n ?_
  refine J.seq ?_
  refine J.cond .const (fun c1 => ?_) (fun c1 => absurd c1 (by decide))
  refine J.seq ?_
  refine J.region_lit ?_
  refine JL.q rfl rfl rfl (QW.move (.tmp rfl)) ?_
  refine JL.arch extFloor (.tmp rfl) rfl fun x4 h4 => ?_
  refine JL.q rfl rfl rfl (QW.assign (.tmp rfl)) ?_
  refine JL.nil ?_
  refine thenQ.n ?_
  refine J.ret ?_
  refine thenQ.r ?_
  exact ⟨_, [], _, RetEv.one rfl (REv.tmp rfl (.refl _)), rfl, List.Perm.refl _, rfl, _, rfl, ⟨_, rfl, h4⟩⟩
theorem floor_ok (b : Nat) : Fn Tryz.prog 73 [.c (.int .u64 (b : Int))] (.c (.int .u64 (floorC b : Int))) := by
  refine AC.of_J Tryz.func73 rfl Tryz.ntmps73 rfl fun w0 A0 => ?_
  refine J.seq ?_
  refine J.region_lit ?_
  refine JL.q rfl rfl rfl (QW.assign .const) ?_
  refine JL.nil ?_
  refine thenQ.n ?_
  refine J.seq ?_
  refine J.region_lit ?_
  refine JL.q rfl rfl rfl (QW.move (.tmp rfl)) ?_
  refine JL.q rfl rfl rfl (QW.ext (extFrom _) (.tmp rfl)) ?_
  refine JL.call0 gofn97 rfl (.cons (.tmp rfl) .nil) (mfloor_ok _) ?_
  rintro _ ⟨x5, rfl, h5⟩
  refine JL.q rfl rfl rfl (QW.call gofn96 (.cons (.tmp rfl) .nil) (by (apply of_ok <;> first | assumption | omega))) ?_
  refine JL.q rfl rfl rfl (QW.assign (.tmp rfl)) ?_
  refine JL.nil ?_
  refine thenQ.n ?_
  refine J.ret ?_
  exact ⟨_, [], _, RetEv.one rfl (REv.tmp rfl (.refl _)), rfl, List.Perm.refl _, by
      rcases h5 with ⟨h1, rfl⟩ | ⟨h1, h2⟩
      · simp [floorC, h1, canonN, floorN, write_nonnan (integral_nonnan h1 .down)]
      · simp [floorC, h1, canonN, h2], rfl⟩
def nearN (n : Int) : Nat := FloatKind.f64.nearest n
def ofN (n : Int) : Nat := if n < -9007199254740992 ∨ 9007199254740992 < n then 0 else nearN n
def ofE (n : Int) : Int := if n < -9007199254740992 ∨ 9007199254740992 < n then 4 else 0
theorem of_test {n : Int} (h : -9223372036854775808 ≤ n ∧ n ≤ 9223372036854775807) :
    ((decide (9007199254740992 < if IntKind.i64.wrap (0 - n) > n then IntKind.i64.wrap (0 - n) else n)) || ((n == IntKind.i64.wrap (0 - n)) && (n != 0))) = decide (n < -9007199254740992 ∨ 9007199254740992 < n) := by
  by_cases hm : n = -9223372036854775808
  · subst hm; decide
  · rw [w64 (by omega)]
    by_cases h0 : n = 0 - n
    · have : n = 0 := by omega
      subst this; decide
    · have h1 : (n == 0 - n) = false := by simpa using h0
      rw [h1, Bool.false_and, Bool.or_false, decide_eq_decide]
      split <;> omega
theorem ofInt_ok (n : Int) (h : -9223372036854775808 ≤ n ∧ n ≤ 9223372036854775807) : Fn Tryz.prog 102 [.c (.int .i64 n)] (.tup [.c (.int .u64 (ofN n : Int)), .c (.int .i64 (ofE n))]) := by
  refine AC.of_J Tryz.func102 rfl Tryz.ntmps102 rfl fun w0 A0 => ?_
  refine J.seq ?_
  refine J.region_lit ?_
  refine JL.q rfl rfl rfl (QW.assign .const) ?_
  refine JL.q rfl rfl rfl (QW.assign .const) ?_
  refine JL.nil ?_
  refine thenQ.n ?_
  refine J.seq ?_
  refine J.seq ?_
  refine J.region_lit ?_
  refine JL.q rfl rfl rfl (QW.move (.tmp rfl)) ?_
  refine JL.q rfl rfl rfl (QW.move (.tmp rfl)) ?_
  refine JL.q rfl rfl rfl (QW.neg (.tmp rfl) rfl) ?_
  refine JL.q rfl rfl rfl (QW.max2 (.tmp rfl) (.tmp rfl)) ?_
  refine JL.q rfl rfl rfl (QW.gtr (.tmp rfl) .const) ?_
  refine JL.q rfl rfl rfl (QW.move (.tmp rfl)) ?_
  refine JL.g rfl rfl rfl rfl rfl (fun hg => (QW.move (.tmp rfl))) ?_
  refine JL.g rfl rfl rfl rfl rfl (fun hg => (QW.move (.tmp rfl))) ?_
  refine JL.g rfl rfl rfl rfl rfl (fun hg => QW.neg (.when rfl hg) rfl) ?_
  refine JL.g rfl rfl rfl rfl rfl (fun hg => (QW.eql (.when rfl hg) (.when rfl hg))) ?_
  refine JL.g rfl rfl rfl rfl rfl (fun hg => (QW.move (.when rfl hg))) ?_
  refine JL.gg rfl rfl rfl rfl rfl (fun hg => (QW.move (.tmp rfl))) ?_
  refine JL.gg rfl rfl rfl rfl rfl (fun hg => (QW.neq (.when rfl hg) .const)) ?_
  refine JL.g rfl rfl rfl rfl rfl (fun hg => (by first | exact QW.pick_and (.when rfl hg) (.tmp rfl) | exact QW.pick_and2 hg (.when rfl hg) (.tmp rfl))) ?_
  refine JL.q rfl rfl rfl (QW.pick_or (.tmp rfl) (.tmp rfl)) ?_
  refine JL.nil ?_
  refine thenQ.n ?_
  refine J.cond (.tmp rfl) (fun c1 => ?_) (fun c1 => ?_)
  ·
    rw [of_test h] at c1; simp at c1
    refine J.seq ?_
    refine J.region_lit ?_
    refine JL.q rfl rfl rfl (QW.assign .const) ?_
    refine JL.q rfl rfl rfl (QW.assign .const) ?_
    refine JL.nil ?_
    refine thenQ.n ?_
    refine J.ret ?_
    refine thenQ.r ?_
    exact ⟨_, [], _, RetEv.two rfl (REv.tmp rfl (.refl _)) (REv.tmp rfl (.refl _)), rfl, List.Perm.refl _, by simp [ofN, ofE, c1], rfl⟩
  ·
    rw [of_test h] at c1; simp at c1
    refine J.skip ?_
    refine thenQ.n ?_
    refine J.seq ?_
    refine J.region_lit ?_
    refine JL.q rfl rfl rfl (QW.move (.tmp rfl)) ?_
    refine JL.q rfl rfl rfl (QW.conv_if us3 fl133 (.tmp rfl)) ?_
    refine JL.q rfl rfl rfl (QW.ext (extBits _) (.tmp rfl)) ?_
    refine JL.q rfl rfl rfl (QW.assign (.tmp rfl)) ?_
    refine JL.q rfl rfl rfl (QW.assign .const) ?_
    refine JL.nil ?_
    refine thenQ.n ?_
    refine J.ret ?_
    exact ⟨_, [], _, RetEv.two rfl (REv.tmp rfl (.refl _)) (REv.tmp rfl (.refl _)), rfl, List.Perm.refl _, by rw [ofN, ofE, if_neg (by omega), if_neg (by omega)]; rfl, rfl⟩
end Go.Proofs.YtjhonjdhanlbkaaGreat.J

/- Walks: the whole number that a number is. -/
namespace Go.Proofs.YtjhonjdhanlbkaaGreat.J
open Go Go.RowKit
set_option maxRecDepth 10000
set_option maxHeartbeats 4000000
theorem findTrunc : Extern.find Tryz.f147 = some (Extern.MathFloor.toIntegral "math.archTrunc" .zero) := by kernel_rfl
theorem extTrunc (b : Nat) (w : World) : (callFunc 147 #[flt b]).run Tryz.prog w = ((Extern.MathFloor.toIntegral "math.archTrunc" .zero #[flt b]).run Tryz.prog w).andThen fun v w => .ok (.value v) w :=
  callFunc_ext Tryz.func147 (by kernel_rfl) (by kernel_rfl) (by kernel_rfl) findTrunc _ _
theorem class_nonnan {b : Nat} (h : ¬ 4 ≤ classN b) : isNan b = false := by
  rw [class_ge] at h
  rw [isNan_eq]; exact decide_eq_false (by omega)
theorem abs_most {b : Nat} (hn : isNan b = false) : (ford (b % 2 ^ 63) 4845873199050653696 == some .gt) = decide (mostR < rung b) := by
  rw [ford_gt (by rw [isNan_abs]; exact hn) (by decide), sr_abs, show sr 4845873199050653696 = 4845873199050653696 by decide, decide_eq_decide]
  unfold mostR; omega
theorem mtrunc_ok (b : Nat) (hn : isNan b = false) : Fn Tryz.prog 130 [.c (flt b)] (.c (flt (truncN b))) := by
  refine AC.of_J Tryz.func130 rfl Tryz.ntmps130 rfl fun w0 A0 => ?_
  refine J.seq ?_
  refine J.region_lit ?_
  refine JL.q rfl rfl rfl (QW.assign .const) ?_
  refine JL.nil ?_
  refine thenQ.n ?_
  refine J.seq ?_
  refine J.cond .const (fun c1 => ?_) (fun c1 => absurd c1 (by decide))
  refine J.seq ?_
  refine J.region_lit ?_
  refine JL.q rfl rfl rfl (QW.move (.tmp rfl)) ?_
  refine JL.arch extTrunc (.tmp rfl) rfl fun x4 h4 => ?_
  obtain rfl : x4 = truncN b := by rcases h4 with ⟨_, h⟩ | ⟨h, _⟩; exact h; rw [hn] at h; cases h
  refine JL.q rfl rfl rfl (QW.assign (.tmp rfl)) ?_
  refine JL.nil ?_
  refine thenQ.n ?_
  refine J.ret ?_
  refine thenQ.r ?_
  exact ⟨_, [], _, RetEv.one rfl (REv.tmp rfl (.refl _)), rfl, List.Perm.refl _, rfl, rfl⟩
theorem int_ok (b : Nat) (hb : b < 2 ^ 64) : Fn Tryz.prog 100 [.c (.int .u64 (b : Int))] (.tup [.c (.int .i64 (intV b)), .c (.int .i64 (intE b))]) := by
  refine AC.of_J Tryz.func100 rfl Tryz.ntmps100 rfl fun w0 A0 => ?_
  refine J.seq ?_
  refine J.region_lit ?_
  refine JL.q rfl rfl rfl (QW.assign .const) ?_
  refine JL.q rfl rfl rfl (QW.assign .const) ?_
  refine JL.nil ?_
  refine thenQ.n ?_
  refine J.seq ?_
  refine J.region_lit ?_
  refine JL.q rfl rfl rfl (QW.move (.tmp rfl)) ?_
  refine JL.q rfl rfl rfl (QW.ext (extFrom _) (.tmp rfl)) ?_
  refine JL.q rfl rfl rfl (QW.assign (.tmp rfl)) ?_
  refine JL.nil ?_
  refine thenQ.n ?_
  refine J.seq ?_
  refine J.block ?_
  refine J.seq ?_
  refine J.region_lit ?_
  refine JL.q rfl rfl rfl (QW.move (.tmp rfl)) ?_
  refine JL.q rfl rfl rfl (QW.call gofn129 (.cons (.tmp rfl) .nil) (by (apply class_ok <;> first | assumption | omega))) ?_
  refine JL.q rfl rfl rfl (QW.geq (.tmp rfl) .const) ?_
  refine JL.q rfl rfl rfl (QW.move (.tmp rfl)) ?_
  refine JL.g rfl rfl rfl rfl rfl (fun hg => (QW.move (.tmp rfl))) ?_
  refine JL.g rfl rfl rfl rfl rfl (fun hg => (QW.move (.tmp rfl))) ?_
  refine JL.g rfl rfl rfl rfl rfl (fun hg => QW.call gofn130 (.cons (.when rfl hg) .nil) (mtrunc_ok b (class_nonnan (by simp at hg; omega)))) ?_
  refine JL.g rfl rfl rfl rfl rfl (fun hg => (QW.neq_f (.when rfl hg) (.when rfl hg))) ?_
  refine JL.q rfl rfl rfl (QW.pick_or (.tmp rfl) (.tmp rfl)) ?_
  refine JL.q rfl rfl rfl (QW.assign (.tmp rfl)) ?_
  refine JL.nil ?_
  refine thenQ.n ?_
  refine J.cond (.tmp rfl) (fun c1 => ?_) (fun c1 => ?_)
  ·
    have hT : infR ≤ rung b ∨ ¬ isWhole b := by
      by_cases hf : rung b < infR
      · rw [trunc_whole hb hf] at c1
        have := class_fin.2 hf
        simp at c1
        rcases c1 with h | h
        · omega
        · exact .inr h
      · exact .inl (by omega)
    refine J.seq ?_
    refine J.region_lit ?_
    refine JL.q rfl rfl rfl (QW.assign .const) ?_
    refine JL.q rfl rfl rfl (QW.assign .const) ?_
    refine JL.nil ?_
    refine thenQ.n ?_
    refine J.ret ?_
    refine blkQ.r ?_
    refine thenQ.r ?_
    exact ⟨_, [], _, RetEv.two rfl (REv.tmp rfl (.refl _)) (REv.tmp rfl (.refl _)), rfl, List.Perm.refl _, by rw [(int_t hT).1, (int_t hT).2], rfl⟩
  ·
    have hc : ¬ 4 ≤ classN b := by intro h; rw [decide_eq_true (by omega), Bool.true_or] at c1; cases c1
    have hf : rung b < infR := by rw [class_ge] at hc; omega
    have hn := class_nonnan hc
    have hw : isWhole b := by
      rw [trunc_whole hb hf] at c1
      simp at c1
      exact c1.2
    refine J.seq ?_
    refine J.region_lit ?_
    refine JL.q rfl rfl rfl (QW.move (.tmp rfl)) ?_
    refine JL.q rfl rfl rfl (QW.call gofn131 (.cons (.tmp rfl) .nil) (by (apply abs_ok <;> first | assumption | omega))) ?_
    refine JL.q rfl rfl rfl (QW.gtr_f (.tmp rfl) .const) ?_
    refine JL.q rfl rfl rfl (QW.assign (.tmp rfl)) ?_
    refine JL.nil ?_
    refine thenQ.n ?_
    refine J.cond (.tmp rfl) (fun c2 => ?_) (fun c2 => ?_)
    ·
      rw [abs_most hn] at c2; simp at c2
      refine J.seq ?_
      refine J.region_lit ?_
      refine JL.q rfl rfl rfl (QW.assign .const) ?_
      refine JL.q rfl rfl rfl (QW.assign .const) ?_
      refine JL.nil ?_
      refine thenQ.n ?_
      refine J.ret ?_
      refine blkQ.r ?_
      refine thenQ.r ?_
      exact ⟨_, [], _, RetEv.two rfl (REv.tmp rfl (.refl _)) (REv.tmp rfl (.refl _)), rfl, List.Perm.refl _, by rw [(int_r hf hw c2).1, (int_r hf hw c2).2], rfl⟩
    ·
      rw [abs_most hn] at c2; simp at c2
      have hK := sv_fits (s := sgn b) (small_whole c2)
      refine J.skip ?_
      refine blkQ.n ?_
      refine thenQ.n ?_
      refine J.seq ?_
      refine J.region_lit ?_
      refine JL.q rfl rfl rfl (QW.move (.tmp rfl)) ?_
      refine JL.q rfl rfl rfl (QW.conv_fi us133 iu3 (.tmp rfl) (trunc_int hf) hK) ?_
      refine JL.q rfl rfl rfl (QW.assign (.tmp rfl)) ?_
      refine JL.q rfl rfl rfl (QW.assign .const) ?_
      refine JL.nil ?_
      refine thenQ.n ?_
      refine J.ret ?_
      exact ⟨_, [], _, RetEv.two rfl (REv.tmp rfl (.refl _)) (REv.tmp rfl (.refl _)), rfl, List.Perm.refl _, by rw [(int_o hf hw c2).1, (int_o hf hw c2).2], rfl⟩
end Go.Proofs.YtjhonjdhanlbkaaGreat.J

/- What expressions come to, as plain data. -/
namespace Go.Proofs.YtjhonjdhanlbkaaGreat.J
open Go Go.RowKit
def V.tr (b : Bool) : V := .mk 1 (if b then 1 else 0) [] [] []
def V.nu (b : Nat) : V := .mk 2 b [] [] []
def V.tx (t : Str) : V := .mk 3 0 t [] []
def V.li (l : List V) : V := .mk 4 0 [] [] l
structure ScT where
  st : V
  ev : V
  it : V
def natD (n : Nat) : Str := if n < 10 then [UInt8.ofNat (48 + n)] else natD (n / 10) ++ [UInt8.ofNat (48 + n % 10)]
termination_by n
decreasing_by omega
def intD (n : Int) : Str := if n < 0 then 45 :: natD n.natAbs else natD n.natAbs
def arO (o : Int) (a b : Nat) : Nat := if o = 11 then arithN .add a b else if o = 12 then arithN .sub a b else if o = 13 then arithN .mul a b else arithN .quo a b
def madeE (v : V) : Except Int V := if v.err = 0 then .ok v else .error 84
def getE (v : V) (s : StT) : Except Int V := if (v.getv [s]).2 = 0 then .ok (v.getv [s]).1 else .error (v.getv [s]).2
def setE (v : V) (s : StT) (x : V) : Except Int V := if (v.setv [s] x).2 = 0 then .ok (v.setv [s] x).1 else .error 84
def oneE (o : Int) (t : Str) (a : V) : Except Int V :=
  if o = 8 then getE a ⟨true, t, 0⟩
  else if o = 10 then (if a.kind < 3 then .error 81 else .ok (.nu (ofN ((a.text.length : Int) + (a.items.length : Int)))))
  else if o = 15 then (if a.kind = 2 then .ok (.nu (floorC a.bits)) else .error 81)
  else if o = 20 then (if a.kind = 1 then .ok (.tr (a.bits == 0)) else .error 81)
  else if a.kind ≠ 2 then .error 81 else if intE a.bits ≠ 0 then .error 7 else .ok (.tx (intD (intV a.bits)))
def twoE (o : Int) (t : Str) (a b : V) : Except Int V :=
  if o = 9 then (if a.kind ≠ 4 ∨ b.kind ≠ 2 then .error 81 else if intE b.bits ≠ 0 then .error 82 else getE a ⟨false, [], intV b.bits⟩)
  else if o = 16 then .ok (.tr (a.ord b == 0))
  else if o = 17 then (if b.kind = a.kind then .ok (.tr (decide (a.ord b < 0))) else .error 81)
  else if o = 22 then (if a.kind ≠ 3 ∨ b.kind ≠ 3 then .error 81 else if 128 < a.text.length + b.text.length then .error 84 else .ok (.tx (a.text ++ b.text)))
  else if o = 24 then (if a.kind ≠ 4 then .error 81 else setE a ⟨false, [], a.items.length⟩ b)
  else if o = 25 then (if a.kind ≠ 5 then .error 81 else setE a ⟨true, t, 0⟩ b)
  else if a.kind ≠ 2 ∨ b.kind ≠ 2 then .error 81 else .ok (.nu (arO o a.bits b.bits))
def plainE (o : Int) (t : Str) (l : List V) : Except Int V :=
  if o = 23 then madeE (.li l) else
  match l with
  | [a] => oneE o t a
  | [a, b] => twoE o t a b
  | _ => .error 0
abbrev ER (α : Type) := Except Int (α × Int)
def truE (r : ER V) : ER Bool := match r with
  | .error e => .error e
  | .ok (v, f) => if v.kind = 1 then .ok (v.bits == 1, f) else .error 81
def mapE (g : V → Int → ER V) : List V → Int → ER (List V)
  | [], f => .ok ([], f)
  | x :: r, f => match g x f with
    | .error e => .error e
    | .ok (y, f1) => match mapE g r f1 with
      | .error e => .error e
      | .ok (l, f2) => .ok (y :: l, f2)
def filE (g : V → Int → ER Bool) : List V → Int → ER (List V)
  | [], f => .ok ([], f)
  | x :: r, f => match g x f with
    | .error e => .error e
    | .ok (b, f1) => match filE g r f1 with
      | .error e => .error e
      | .ok (l, f2) => .ok (if b then x :: l else l, f2)
def fndE (g : V → Int → ER Bool) : List V → Int → ER V
  | [], f => .error 71
  | x :: r, f => match g x f with
    | .error e => .error e
    | .ok (b, f1) => if b then .ok (x, f1) else fndE g r f1
def madeF (r : ER (List V)) : ER V := match r with
  | .error e => .error e
  | .ok (l, f) => match madeE (.li l) with
    | .error e => .error e
    | .ok v => .ok (v, f)
def overE (o : Int) (g : V → Int → ER V) (r : ER V) : ER V := match r with
  | .error e => .error e
  | .ok (v, f) => if v.kind ≠ 4 then .error 81
    else if o = 27 then madeF (mapE g v.items f)
    else if o = 28 then madeF (filE (fun x f => truE (g x f)) v.items f)
    else fndE (fun x f => truE (g x f)) v.items f
mutual
/-- An expression's value, and the fuel that is left; or the error. -/
def EX.ev : EX → ScT → Int → ER V
  | .mk o b t l, s, f =>
    if f < 1 then .error 83
    else if o = 0 then .ok (.nil, f - 1)
    else if o = 1 then .ok (.tr false, f - 1)
    else if o = 2 then .ok (.tr true, f - 1)
    else if o = 3 then .ok (.nu b, f - 1)
    else if o = 4 then .ok (.tx t, f - 1)
    else if o = 5 then .ok (s.st, f - 1)
    else if o = 6 then .ok (s.ev, f - 1)
    else if o = 7 then .ok (s.it, f - 1)
    else if o = 18 then EX.evAO false l s (f - 1)
    else if o = 19 then EX.evAO true l s (f - 1)
    else if o = 21 then EX.evIf l s (f - 1)
    else if o = 27 ∨ o = 28 ∨ o = 29 then EX.evOv o l s (f - 1)
    else match EX.evs l s (f - 1) with
      | .error e => .error e
      | .ok (vs, f1) => match plainE o t vs with
        | .error e => .error e
        | .ok v => .ok (v, f1)
def EX.evs : List EX → ScT → Int → ER (List V)
  | [], s, f => .ok ([], f)
  | x :: r, s, f => match x.ev s f with
    | .error e => .error e
    | .ok (v, f1) => match EX.evs r s f1 with
      | .error e => .error e
      | .ok (vs, f2) => .ok (v :: vs, f2)
def EX.evAO (k : Bool) : List EX → ScT → Int → ER V
  | x :: y :: _, s, f => match truE (x.ev s f) with
    | .error e => .error e
    | .ok (b1, f1) => if b1 = k then .ok (.tr k, f1) else match truE (y.ev s f1) with
      | .error e => .error e
      | .ok (b2, f2) => .ok (.tr b2, f2)
  | _, _, _ => .error 0
def EX.evIf : List EX → ScT → Int → ER V
  | x :: y :: z :: _, s, f => match truE (x.ev s f) with
    | .error e => .error e
    | .ok (b1, f1) => if b1 then y.ev s f1 else z.ev s f1
  | _, _, _ => .error 0
def EX.evOv (o : Int) : List EX → ScT → Int → ER V
  | x :: y :: _, s, f => overE o (fun it f => y.ev { s with it } f) (x.ev s f)
  | _, _, _ => .error 0
end
def runT (e : EX) (s : ScT) (f : Int) : V × Int × Int := match e.ev s f with
  | .error c => (.nil, 0, c)
  | .ok (v, f1) => (v, f1, 0)
def evalT (e : EX) (s : ScT) (f : Int) : V × Int × Int :=
  if e.err ≠ 0 then (.nil, 0, e.err) else if s.st.err ≠ 0 then (.nil, 0, s.st.err) else if s.ev.err ≠ 0 then (.nil, 0, s.ev.err) else if s.it.err ≠ 0 then (.nil, 0, s.it.err)
  else if f < 0 ∨ 4096 < f then (.nil, 0, 4) else runT e s f
end Go.Proofs.YtjhonjdhanlbkaaGreat.J

/- Appends onto slices that are read alone and have no spare places: what comes of them is fresh. Lists of trees. -/
namespace Go.Proofs.YtjhonjdhanlbkaaGreat.J
open Go Go.RowKit
section
variable {P : Program} {E : Ent} {st : St} {Q : Exit → St → Prop} {n : Nat} {env : List (Nat × AV)} {own : List Own} {F : List (Value × AV)} {D : List Deferred} {ops : Array Oper} {rest : List Oper}
variable {A : Foot} {a : Act} {w w' : World} {t tx et ty : TypeId} {pos : String} {af : Array Edge} {d : Nat} {dd : Option Tmp} {gd : Option (Nat × Bool)} {s x y : Operand}
theorem SatA.drawn (h : SatA E A st a w) : SatA E A st a (World.drawnBy w) := by
  obtain ⟨n, env, own, F, D⟩ := st
  exact h.draw
end
theorem Reown.ofEq {a b : List Own} (h : a = b) : Reown a b := h ▸ .refl _
end Go.Proofs.YtjhonjdhanlbkaaGreat.J

/- Regions that draw their order, with allocations that hang on nothing among their operations. -/
namespace Go.Proofs.YtjhonjdhanlbkaaGreat.J
open Go Go.RowKit
abbrev Al := List (Nat × Nat × List AV)
def AllocOp (P : Program) (o : Oper) (d : Nat) (z : List AV) : Prop :=
  ∃ t ty pos af vs, o = ⟨some d, .alloc t, ty, pos, af, none⟩ ∧ zeroCells P t = some vs ∧ vs.all (·.oneCell') = true ∧ z = vs.map AV.c
theorem AllocOp.dst {P : Program} {o : Oper} {d : Nat} {z : List AV} (h : AllocOp P o d z) : o.dst = some d := by
  obtain ⟨t, ty, pos, af, vs, rfl, _⟩ := h; rfl
theorem AllocOp.guard {P : Program} {o : Oper} {d : Nat} {z : List AV} (h : AllocOp P o d z) : o.guard = none := by
  obtain ⟨t, ty, pos, af, vs, rfl, _⟩ := h; rfl
theorem AllocOp.mk {P : Program} {t : TypeId} {ty : TypeId} {pos : String} {af : Array Edge} {d : Nat} {vs : List Value} (hz : zeroCells P t = some vs) (h1 : vs.all (·.oneCell') = true) : AllocOp P ⟨some d, .alloc t, ty, pos, af, none⟩ d (vs.map AV.c) := ⟨t, ty, pos, af, vs, rfl, hz, h1, rfl⟩
theorem AllocOp.run {P : Program} {E : Ent} {o : Oper} {d : Nat} {z : List AV} (h : AllocOp P o d z) {n : Nat} {env : List (Nat × AV)} {own ex : List Own} {F : List (Value × AV)} {D : List Deferred} {A : Foot} {a : Act} {w : World} {Qx : Exit → Act → World → Prop}
    (hA : SatA E A ⟨n, env, own ++ ex, F, D⟩ a w) (K : Act → World → Prop)
    (hK : ∀ b w', Frm w A w' A → SatA E A ⟨n, env, .box b z :: (own ++ ex), F, D⟩ a w' → K (a.put o.dst (.pointer (some ⟨b, 0, none⟩))) w') : o.wpIn (fen E.rd) 0 P a w K Qx := by
  obtain ⟨t, ty, pos, af, vs, rfl, hz, h1, rfl⟩ := h
  refine wpR (by intro c h; cases h) ?_
  unfold Oper.wp
  obtain ⟨i, zv, h2, h3, h4⟩ : ∃ i zv, P.info? t = some i ∧ i.zero = some zv ∧ zv.cells.toList = vs := by
    unfold zeroCells at hz
    cases hi : P.info? t with
    | none => rw [hi] at hz; cases hz
    | some i =>
      rw [hi] at hz
      cases hzz : i.zero with
      | none => simp [hzz] at hz
      | some zv => exact ⟨i, zv, rfl, hzz, by simpa [hzz] using hz⟩
  have hr : (execOp a.eval ⟨some d, .alloc t, ty, pos, af, none⟩).run P w = .ok (.value (.pointer (some ⟨w.heap.size, 0, none⟩))) (World.pushed w (.cells vs.toArray t)) := by
    subst h4
    simp [execOp, Instr.alloc, zeroValue, run_typeInfo h2, h3, newVar, newRow, World.pushed]
  rw [hr, Oper.upon_value]
  have hs := hA.step (.push _ _ _) (fun _ _ h => h) (hA.hp.push_box (us := vs.toArray) (t := t) hA.keep.size (by simp) (.const h1))
  refine hK w.heap.size _ (fun v x hx => hx.move (fun _ _ h _ => h) (fun fr b hb _ => (Keep.push [] _ _).block b (hA.hp.lt fr b hb) (by simp))) hs
section
variable {P : Program} {E : Ent} {Q : Exit → St → Prop} {n : Nat} {env : List (Nat × AV)} {own : List Own} {R : Outs → List Own → AV → List Own → Prop} {M : Nat} {F : List (Value × AV)} {D : List Deferred} {ops : Array Oper}
end
section
variable {P : Program} {E : Ent} {Q : Exit → St → Prop} {n : Nat} {env : List (Nat × AV)} {own : List Own} {R : Outs → List Own → AV → List Own → Prop} {M : Nat} {F : List (Value × AV)} {D : List Deferred} {ops : Array Oper}
variable {i j p : Nat} {da : Al} {K : List Slot → Al → Prop}
theorem mrg_frame : ∀ (ms : List Cd) (ps own ex : List Own), ms.length ≤ own.length → (mrg ms ps (own ++ ex)).Perm (mrg ms ps own ++ ex)
  | [], ps, own, ex, _ => by
    simp only [mrg, List.append_assoc]
    exact List.Perm.append_left _ List.perm_append_comm
  | _ :: _, _, [], _, h => by simp at h
  | .p :: ms, p :: ps, _ :: own, ex, h => by simpa [mrg] using mrg_frame ms ps own ex (by simpa using h)
  | .p :: ms, [], _ :: own, ex, h => by simpa [mrg] using mrg_frame ms [] own ex (by simpa using h)
  | .k :: ms, ps, o :: own, ex, h => by simpa [mrg] using mrg_frame ms ps own ex (by simpa using h)
  | .l :: ms, ps, o :: own, ex, h => by simpa [mrg] using mrg_frame ms ps own ex (by simpa using h)
end
end Go.Proofs.YtjhonjdhanlbkaaGreat.J

/- Parts of own arrays: an own array laid open as a block; slices of it as constants; copies, appends in place, clearing, room that is made. -/
namespace Go.Proofs.YtjhonjdhanlbkaaGreat.J
open Go Go.RowKit
abbrev sv (b off l c : Nat) : Value := .slice (some ⟨b, off, none⟩) l c
section
variable {P : Program} {E : Ent} {st : St} {Q : Exit → St → Prop} {n B : Nat} {env : List (Nat × AV)} {own : List Own} {F : List (Value × AV)} {D : List Deferred} {ops : Array Oper} {rest : List Oper} {c : Code}
variable {A : Foot} {a : Act} {w w' : World} {t tx et ty : TypeId} {pos : String} {af : Array Edge} {d : Nat} {dd : Option Tmp} {gd : Option (Nat × Bool)} {x y s lo hi mx : Operand} {g : Bool} {m : Nat} {k k' k'' : IntKind} {i j j' : Int}
/-! ### open and shut -/
theorem SatA.swap {i : Nat} {o o' : Own} (h : SatA E A ⟨n, env, own, F, D⟩ a w) (hi : own[i]? = some o) (hf : o'.fp = o.fp) (ho : o'.ok w A) : SatA E A ⟨n, env, own.set i o', F, D⟩ a w :=
  ⟨h.size, h.defers, h.keep, h.hp.upd hi hf (.refl _ _) rfl ho, h.env, h.facts⟩
theorem SatA.lay {i : Nat} {v : Value} {e : ETy} {xs : List (List AV)} (h : SatA E A ⟨n, env, own, F, D⟩ a w) (hi : own[i]? = some (.arr v e xs)) :
    (∃ a0, v = .slice a0 0 0 ∧ xs = []) ∨ ∃ b cap sp, v = sv b 0 xs.length (cap + 1) ∧ xs.length ≤ cap + 1 ∧ (∀ x ∈ xs, x.length = e.sz) ∧ xs.flatten.length + List.length sp = (cap + 1) * e.sz ∧
      SatA E A ⟨n, env, own.set i (.box b (xs.flatten ++ sp.map AV.c)), F, D⟩ a w := by
  rcases h.arr i hi with h0 | ⟨b, cap, us, t, hv, h1, h2, h3, h4, h5⟩
  · exact .inl h0
  have hfl := flatten_length xs h4
  have hle : xs.flatten.length ≤ us.size := by rw [hfl, h3.size]; exact Nat.mul_le_mul_right _ h2
  have h3s := h3.size
  have hul : us.toList.length = us.size := by simp
  refine .inr ⟨b, cap, us.toList.drop xs.flatten.length, hv, h2, h4, by rw [List.length_drop]; omega, h.swap hi (by rw [hv]; rfl) ?_⟩
  refine ⟨us, t, h1, by rw [List.length_append, List.length_map, List.length_drop]; omega, fun k y hk => ?_⟩
  rw [Nat.zero_add]
  by_cases hlt : k < xs.flatten.length
  · rw [List.getElem?_append_left hlt] at hk
    have := h5 k y hk
    rwa [Nat.zero_add] at this
  · rw [List.getElem?_append_right (by omega), List.getElem?_map, List.getElem?_drop] at hk
    rw [show xs.flatten.length + (k - xs.flatten.length) = k by omega] at hk
    cases hu : us[k]? with
    | none => rw [Array.getElem?_toList, hu] at hk; cases hk
    | some u =>
      rw [Array.getElem?_toList, hu] at hk
      simp only [Option.map_some, Option.some.injEq] at hk
      subst hk
      exact ⟨u, rfl, h3.one k u hu, .c u⟩
theorem J.lay (i : Nat) {v : Value} {e : ETy} {xs : List (List AV)} (hi : own[i]? = some (.arr v e xs)) (h0 : ∀ a0, v = .slice a0 0 0 → xs = [] → J P E c ⟨n, env, own, F, D⟩ Q)
    (h1 : ∀ b cap sp, v = sv b 0 xs.length (cap + 1) → xs.length ≤ cap + 1 → (∀ x ∈ xs, x.length = e.sz) → xs.flatten.length + List.length sp = (cap + 1) * e.sz → J P E c ⟨n, env, own.set i (.box b (xs.flatten ++ sp.map AV.c)), F, D⟩ Q) : J P E c ⟨n, env, own, F, D⟩ Q := fun a w ⟨A, hA⟩ => by
  rcases hA.lay hi with ⟨a0, hv, hx⟩ | ⟨b, cap, sp, hv, g1, g2, g3, g4⟩
  · exact h0 a0 hv hx a w ⟨A, hA⟩
  · exact h1 b cap sp hv g1 g2 g3 a w ⟨A, g4⟩
theorem SatA.fold {i : Nat} {b cap : Nat} {ys : List AV} {v : Value} {e : ETy} {xs : List (List AV)} (h : SatA E A ⟨n, env, own, F, D⟩ a w) (hi : own[i]? = some (.box b ys)) (hv : v = sv b 0 xs.length (cap + 1)) (hle : xs.length ≤ cap + 1)
    (hs : ∀ x ∈ xs, x.length = e.sz) (hl : ys.length = (cap + 1) * e.sz) (hp : ys.take xs.flatten.length = xs.flatten) : SatA E A ⟨n, env, own.set i (.arr v e xs), F, D⟩ a w := by
  obtain ⟨us, t, h1, h2, h3⟩ := (h.hp.own _ (List.mem_of_getElem? hi) : (Own.box b ys).ok w A)
  refine h.swap hi (by rw [hv]; rfl) (.inr ⟨b, cap, us, t, hv, h1, hle, ⟨by rw [h2, hl], fun k u hu => ?_⟩, hs, fun k y hk => ?_⟩)
  · have hk : k < ys.length := by rw [← h2]; exact (Array.getElem?_eq_some_iff.1 hu).1
    obtain ⟨u', g1, g2, _⟩ := h3 k _ (List.getElem?_eq_getElem hk)
    rw [Nat.zero_add, hu] at g1
    cases g1; exact g2
  · refine h3 k y ?_
    have hk1 := (List.getElem?_eq_some_iff.1 hk).1
    rw [← hp] at hk
    rw [List.getElem?_take] at hk
    rwa [if_pos hk1] at hk
theorem J.fold (i : Nat) {b cap : Nat} {ys : List AV} {v : Value} {e : ETy} (xs : List (List AV)) (hi : own[i]? = some (.box b ys)) (hv : v = sv b 0 xs.length (cap + 1)) (hle : xs.length ≤ cap + 1)
    (hs : ∀ x ∈ xs, x.length = e.sz) (hl : ys.length = (cap + 1) * e.sz) (hp : ys.take xs.flatten.length = xs.flatten) {own' : List Own} (ho : own.set i (.arr v e xs) = own') (h : J P E c ⟨n, env, own', F, D⟩ Q) : J P E c ⟨n, env, own, F, D⟩ Q := fun a w ⟨A, hA⟩ => by
  subst ho
  exact h a w ⟨A, hA.fold hi hv hle hs hl hp⟩
/-! ### slices of a block, as constants -/
theorem cut_val {b off cap : Nat} {l : Nat} {off' : Nat} (ho : (if cap = l then off else off + l * m) = off') (l' c' : Nat) : (Value.slice (if cap = l then some ⟨b, off, none⟩ else (some ⟨b, off, none⟩ : Option Addr).map (·.add (l * m))) l' c') = sv b off' l' c' := by
  subst ho
  split
  · rfl
  · rw [Option.map_some, add_at]
theorem QW.cutL {b off len cap l off' : Nat} (hU : P.underlying t = some (.slice et)) (hT : tySz P et = some (g, m, B)) (hx : Ev E st x (.c (sv b off len cap))) (hlo : Ev E st lo (.c (.int k i))) (hi : i = (l : Int)) (hl : l ≤ len) (hc : len ≤ cap) (ho : (if cap = l then off else off + l * m) = off') :
    QW P E st ⟨dd, .slice t x (some lo) none none, ty, pos, af, gd⟩ (.c (sv b off' (len - l) (cap - l))) := .pure fun A a w hs => by
  refine ⟨sv b off' (len - l) (cap - l), ?_, .c _⟩
  have := run_slice (P := P) (w := w) (ad := some ⟨b, off, none⟩) (k := k) (k' := .i64) hU hT (some l) none (len := len) (cap := cap) (by simpa using hl) (by simpa using hc)
  simp only [bnd, Option.getD_some, Option.getD_none] at this
  rw [cut_val ho] at this
  simp only [execOp, hx.eq hs, Option.map_some, Option.map_none, EvBnd hlo hi hs, Sem.run_bind, this, Result.andThen_ok, Sem.run_pure]
theorem QW.cutH {b off len cap h : Nat} (hU : P.underlying t = some (.slice et)) (hT : tySz P et = some (g, m, B)) (hx : Ev E st x (.c (sv b off len cap))) (hhi : Ev E st hi (.c (.int k j))) (hj : j = (h : Int)) (hc : h ≤ cap) :
    QW P E st ⟨dd, .slice t x none (some hi) none, ty, pos, af, gd⟩ (.c (sv b off h cap)) := .pure fun A a w hs => by
  refine ⟨sv b off h cap, ?_, .c _⟩
  have := run_slice (P := P) (w := w) (ad := some ⟨b, off, none⟩) (k := .i64) (k' := k) hU hT none (some h) (len := len) (cap := cap) (by simp) (by simpa using hc)
  simp only [bnd, Option.getD_some, Option.getD_none, Nat.sub_zero] at this
  rw [cut_val (l := 0) (off' := off) (by split <;> simp)] at this
  simp only [execOp, hx.eq hs, Option.map_some, Option.map_none, EvBnd hhi hj hs, Sem.run_bind, this, Result.andThen_ok, Sem.run_pure]
theorem QW.cap_c {ad : Option Addr} {l cap : Nat} (hU : P.underlying t = some (.slice et)) (h : Ev E st x (.c (.slice ad l cap))) : QW P E st ⟨dd, .call ⟨.builtin .cap, #[x], #[t]⟩, ty, pos, af, gd⟩ (.c (.int .i64 (cap : Int))) := .pure fun A a w hs =>
  ⟨_, by simp [execOp, resolve, invoke, builtin, Builtin.cap_, run_underlying _ hU, h.eq hs, goInt], .c _⟩
/-! ### what is copied -/
def SrcN (P : Program) (w : World) (A : Foot) (sz m l : Nat) (v : Value) (zs : List AV) : Prop :=
  ∃ ad cp cs, v = .slice ad l cp ∧ (Builtin.firstCells sz m v).run P w = .ok (List.toArray cs) w ∧ Cells w A cs.toArray 0 zs ∧ cs.length = zs.length ∧ zs.length = m * sz
theorem cells_part {us : Array Value} {zs : List AV} {b off o2 mm : Nat} {tt : TypeId} {fz : Nat × Nat} (h : Cells w A us off zs) (hb : w.heap[b]? = some (.cells us tt fz)) (hle : o2 + mm ≤ zs.length) :
    ∃ cs : List Value, cs.length = mm ∧ (∀ j u, cs[j]? = some u → w.cell? ((⟨b, off + o2, none⟩ : Addr).add j) = some u) ∧ Cells w A cs.toArray 0 ((zs.drop o2).take mm) := by
  have hg : ∀ q, q < mm → ∃ u, us[off + (o2 + q)]? = some u ∧ u.oneCell' = true ∧ ∀ y, zs[o2 + q]? = some y → Rd w A u y := fun q hq => by
    obtain ⟨u, h1, h0, h2⟩ := h (o2 + q) _ (List.getElem?_eq_getElem (by omega))
    exact ⟨u, h1, h0, fun y hy => by rw [List.getElem?_eq_getElem (by omega)] at hy; cases hy; exact h2⟩
  have hu : ∀ q, q < mm → us[off + (o2 + q)]? = some (us.getD (off + (o2 + q)) undef) := fun q hq => by
    obtain ⟨u, h1, _⟩ := hg q hq
    simp [Array.getD_eq_getD_getElem?, h1]
  refine ⟨(List.range mm).map fun q => us.getD (off + (o2 + q)) undef, by simp, fun q u hq => ?_, fun q y hq => ?_⟩
  · rw [List.getElem?_map] at hq
    by_cases hlt : q < mm
    · rw [List.getElem?_range hlt] at hq; cases hq
      rw [add_at, cell_at hb, Nat.add_assoc]; exact hu q hlt
    · rw [List.getElem?_eq_none (by simpa using hlt)] at hq; cases hq
  · rw [List.getElem?_take] at hq
    split at hq
    · rename_i hlt
      rw [List.getElem?_drop] at hq
      obtain ⟨u, h1, h0, h2⟩ := hg q hlt
      have : us.getD (off + (o2 + q)) undef = u := by simp [Array.getD_eq_getD_getElem?, h1]
      exact ⟨u, by simp [hlt, h1], h0, h2 y hq⟩
    · cases hq
theorem SrcN.box {sz mm l cp b2 o2 i2 : Nat} {zs : List AV} {st : St} (h : Ev E st x (.c (sv b2 o2 l cp))) (ho : st.own[i2]? = some (.box b2 zs)) (hm : mm ≤ l) (hle : o2 + mm * sz ≤ zs.length) : ∀ A a w, SatA E A st a w → SrcN P w A sz mm l (a.eval x) ((zs.drop o2).take (mm * sz)) := fun A a w hs => by
  obtain ⟨us, tt, h1, h2, h3⟩ := (hs.hp.own _ (List.mem_of_getElem? ho) : (Own.box b2 zs).ok w A)
  obtain ⟨cs, g1, g2, g3⟩ := cells_part (off := 0) h3 h1 hle
  rw [Nat.zero_add] at g2
  refine ⟨_, _, cs, h.eq hs, ?_, g3, by rw [g1]; simp; omega, by simp; omega⟩
  rw [h.eq hs]
  exact run_firstCells_some w sz mm ⟨b2, o2, none⟩ l cp cs g1 g2
theorem SrcN.sl {sz mm : Nat} {fr clip : Bool} {e : ETy} {xs : List (List AV)} {st : St} (h : Ev E st x (.sl fr clip e xs)) (hsz : e.sz = sz) (hm : mm ≤ xs.length) : ∀ A a w, SatA E A st a w → SrcN P w A sz mm xs.length (a.eval x) (xs.flatten.take (mm * sz)) := fun A a w hs => by
  obtain ⟨ad, cap, hv, _, _, hc⟩ := (h A a w hs).of_sl
  rcases hc with rfl | ⟨b, off, cs, t', fz, rfl, hAb, hb, hxl, _, hc⟩
  · obtain rfl : mm = 0 := by simpa using hm
    refine ⟨_, _, [], hv, ?_, fun k y hk => by simp at hk, by simp, by simp⟩
    rw [hv]
    cases ad with
    | none => exact run_firstCells_none w sz 0 _ _
    | some a' => exact run_firstCells_some w sz 0 a' _ _ [] (by simp) (by intro _ _ h'; simp at h')
  · have hfl := flatten_length xs hxl
    subst hsz
    have hle : 0 + mm * e.sz ≤ xs.flatten.length := by rw [hfl, Nat.zero_add]; exact Nat.mul_le_mul_right _ hm
    obtain ⟨vs, g1, g2, g3⟩ := cells_part (o2 := 0) hc hb hle
    rw [List.drop_zero] at g3
    refine ⟨_, _, vs, hv, ?_, g3, by rw [g1, List.length_take]; omega, by rw [List.length_take]; omega⟩
    rw [hv]
    exact run_firstCells_some w e.sz mm ⟨b, off, none⟩ _ _ vs g1 (by simpa using g2)
theorem SrcN.one {sz : Nat} {fr clip : Bool} {e : ETy} {ys : List AV} {st : St} (h : Ev E st x (.sl fr clip e [ys])) (hsz : e.sz = sz) (hy : ys.length = sz) : ∀ A a w, SatA E A st a w → SrcN P w A sz 1 1 (a.eval x) ys := fun A a w hs => by
  have := SrcN.sl (P := P) (mm := 1) h hsz (Nat.le_refl 1) A a w hs
  have h2 : ([ys] : List (List AV)).flatten.take (1 * sz) = ys := by
    rw [Nat.one_mul, show ([ys] : List (List AV)).flatten = ys by simp]
    exact List.take_of_length_le (Nat.le_of_eq hy)
  rwa [h2] at this
theorem SrcN.boxE {sz mm l cp b2 o2 i2 q : Nat} {zs : List AV} {st : St} (h : Ev E st x (.c (sv b2 o2 l cp))) (ho : st.own[i2]? = some (.box b2 zs)) (hq : mm * sz = q) (hm : mm ≤ l) (hle : o2 + q ≤ zs.length) : ∀ A a w, SatA E A st a w → SrcN P w A sz mm l (a.eval x) ((zs.drop o2).take q) := by
  subst hq
  exact SrcN.box h ho hm hle
theorem SatA.lays {i b off : Nat} {ys zs : List AV} {cs : List Value} (hA : SatA E A ⟨n, env, own, F, D⟩ a w) (ho : own[i]? = some (.box b ys)) (hc : Cells w A cs.toArray 0 zs) (hl : cs.length = zs.length) (hle : off + zs.length ≤ ys.length) :
    ∃ w1, (storeCells ⟨b, off, none⟩ cs 0).run P w = .ok () w1 ∧ SatA E A ⟨n, env, own.set i (.box b (splice ys off zs)), F, D⟩ a w1 := by
  have hmem := List.mem_of_getElem? ho
  obtain ⟨us, tt, h1, h2, h3⟩ := (hA.hp.own _ hmem : (Own.box b ys).ok w A)
  obtain ⟨w1, us1, hr1, hk1, hz1, hb1, hs1, hu1⟩ := run_storeCells (P := P) (off := off) cs 0 us w h1 (by omega) (List.all_eq_true.2 (hc.ones hl))
  refine ⟨w1, hr1, ?_⟩
  have hfp : ∀ fr q, A fr q → q < w.heap.size → w1.heap[q]? = w.heap[q]? := fun fr q hq hlt => hk1.block q hlt fun hm' => by
    simp only [List.mem_singleton] at hm'
    subst hm'
    exact (hA.hp.fp q (fps_mem hmem (by simp [Own.fp]))).2.2 fr hq
  refine hA.step (hk1.mono fun q hq => fps_mem hmem (by simpa [Own.fp] using hq)) (fun _ _ h => h) (hA.hp.upd (o' := .box b (splice ys off zs)) ho (by simp [Own.fp]) (by simpa [Own.fp] using hk1) hz1 ⟨us1, tt, hb1, by rw [hs1, h2, splice_length hle], ?_⟩)
  exact (h3.spliced hc hl hle (by simpa using hu1)).keep hfp
theorem JL.copyN (i : Nat) {b o1 l1 c1 l2 mm sz : Nat} {ys zs : List AV} (hU : P.underlying t = some (.slice et)) (hT : tySz P et = some (g, sz, B)) (hs : Ev E ⟨n, env, own, F, D⟩ s (.c (sv b o1 l1 c1))) (ho : own[i]? = some (.box b ys))
    (hx : ∀ A a w, SatA E A ⟨n, env, own, F, D⟩ a w → SrcN P w A sz mm l2 (a.eval x) zs) (hm : Nat.min l2 l1 = mm) (hle : o1 + zs.length ≤ ys.length) (hd : Nat.blt d n = true)
    (h : JL P E ops rest ⟨n, (d, .c (.int .i64 (mm : Int))) :: env, own.set i (.box b (splice ys o1 zs)), F, D⟩ Q) :
    JL P E ops (⟨some d, .call ⟨.builtin .copy, #[s, x], #[t, tx]⟩, ty, pos, af, none⟩ :: rest) ⟨n, env, own, F, D⟩ Q := fun a w ⟨A, hA⟩ => by
  refine wpListIn_plain rfl fun K hK => ?_
  refine wpR (by intro c h; cases h) ?_
  unfold Oper.wp
  obtain ⟨ad, cp, cs, hv, hf, hc, hl, _⟩ := hx A a w hA
  obtain ⟨w1, hr1, hS⟩ := hA.lays (P := P) ho hc hl hle
  have hr : (Builtin.copy_ #[t, tx] ty #[sv b o1 l1 c1, a.eval x]).run P w = .ok (.int .i64 (mm : Int)) w1 := by
    rw [hv] at hf ⊢
    simp [Builtin.copy_, run_underlying _ hU, Builtin.lenOf, hm, run_sizeOf hT, hf, hr1, goInt]
  have he : (execOp a.eval ⟨some d, .call ⟨.builtin .copy, #[s, x], #[t, tx]⟩, ty, pos, af, none⟩).run P w = .ok (.value (.int .i64 (mm : Int))) w1 := by
    simp [execOp, resolve, invoke, builtin, hs.eq hA, hr, Result.andThen]
  rw [he, Oper.upon_value]
  exact hK _ _ (h _ _ ⟨A, hS.put (blt_lt hd) (.c _)⟩)
theorem JL.appMake (i : Nat) {b o1 l1 c1 q : Nat} {e : ETy} {ys : List AV} {kn kq : IntKind} (hU : P.underlying t = some (.slice et)) (hN : P.underlying tx = some (.int kn)) (hE : elemB P et e = true) (h0 : Nat.blt 0 e.sz = true) (hs : Ev E ⟨n, env, own, F, D⟩ s (.c (sv b o1 l1 c1))) (ho : own[i]? = some (.box b ys))
    (hx : Ev E ⟨n, env, own, F, D⟩ x (.c (.int kq (q : Int)))) (hq : 0 < q) (hg : c1 < l1 + q) (hle : o1 + l1 * e.sz ≤ ys.length) (hreach : (l1 + q) * e.bytes ≤ reach) (hr63 : l1 + q ≤ reach) (hd : Nat.blt d n = true)
    (h : ∀ b' cap tl, l1 + q ≤ cap + 1 → ((ys.drop o1).take (l1 * e.sz)).length = l1 * e.sz → l1 * e.sz + List.length tl = (cap + 1) * e.sz → JL P E ops rest ⟨n, (d, .c (sv b' 0 (l1 + q) (cap + 1))) :: env, .box b' ((ys.drop o1).take (l1 * e.sz) ++ tl) :: own, F, D⟩ Q) :
    JL P E ops (⟨some d, .call ⟨.builtin .append, #[s, x], #[t, tx]⟩, ty, pos, af, none⟩ :: rest) ⟨n, env, own, F, D⟩ Q := fun a w ⟨A, hA⟩ => by
  refine wpListIn_plain rfl fun K hK => ?_
  refine wpR (by intro c h; cases h) ?_
  unfold Oper.wp
  obtain ⟨ti, tz, hi, hsz, hby, hz, hzs, hz1⟩ := elemB_get hE
  have hA' := hA.draw
  obtain ⟨us, tt, g1, g2, g3⟩ := (hA'.hp.own _ (List.mem_of_getElem? ho) : (Own.box b ys).ok _ A)
  obtain ⟨cs, k1, k2, k3⟩ := cells_part (off := 0) g3 g1 hle
  rw [Nat.zero_add] at k2
  have hold : (Builtin.firstCells ti.size l1 (sv b o1 l1 c1)).run P w.drew = .ok cs.toArray w.drew := run_firstCells_some w.drew ti.size l1 ⟨b, o1, none⟩ l1 c1 cs (by rw [hsz]; exact k1) k2
  have hp := blt_lt h0
  unfold reach at hr63 hreach
  have hqb : q * ti.bytes ≤ (l1 + q) * e.bytes := by rw [hby]; exact Nat.mul_le_mul_right _ (by omega)
  have hr := Go.Lib.run_append_grow_zeros (P := P) w t tx ty et ti tz kq kn hU hN hi hz (some ⟨b, o1, none⟩) l1 c1 cs hold q hq (by omega) hg (by omega) (by omega) (growslice_fits hg (by rw [hby]; omega))
  have hge := grownCap_ge w (l1 + q) c1 et
  rw [run_builtin_append (hs.eq hA) rfl (by rw [hx.eq hA]; exact hr), Oper.upon_value, alloc_eq]
  obtain ⟨cap, hcap⟩ : ∃ cap, grownCap w (l1 + q) c1 et = cap + 1 := ⟨grownCap w (l1 + q) c1 et - 1, by omega⟩
  generalize hrow : (cs.toArray ++ Builtin.zeroCells tz.cells q ++ Builtin.zeroCells tz.cells (grownCap w (l1 + q) c1 et - (l1 + q)) : Array Value) = row at *
  have hz0 : ∀ u ∈ Builtin.zeroCells tz.cells q ++ Builtin.zeroCells tz.cells (grownCap w (l1 + q) c1 et - (l1 + q)), u.oneCell' = true := fun u hu => by
    rcases Array.mem_append.1 hu with hu | hu <;> exact zeroCells_one hz1 u hu
  let tl : List AV := (Builtin.zeroCells tz.cells q ++ Builtin.zeroCells tz.cells (grownCap w (l1 + q) c1 et - (l1 + q))).toList.map AV.c
  have hhl : ((ys.drop o1).take (l1 * e.sz)).length = l1 * e.sz := by rw [List.length_take, List.length_drop]; omega
  have htl : tl.length = (q + (cap + 1 - (l1 + q))) * e.sz := by simp [tl, size_zeroCells, hzs, hcap, Nat.add_mul]
  have hrl : row = cs.toArray ++ (Builtin.zeroCells tz.cells q ++ Builtin.zeroCells tz.cells (grownCap w (l1 + q) c1 et - (l1 + q))) := by rw [← hrow, Array.append_assoc]
  have hrc : Cells (World.drawnBy w) A row 0 ((ys.drop o1).take (l1 * e.sz) ++ tl) := fun r y hk => by
    rw [Nat.zero_add]
    by_cases hlt : r < ((ys.drop o1).take (l1 * e.sz)).length
    · rw [List.getElem?_append_left hlt] at hk
      obtain ⟨u, m1, m2, m3⟩ := k3 r y hk
      rw [Nat.zero_add] at m1
      refine ⟨u, ?_, m2, m3⟩
      rw [hrl, Array.getElem?_append_left (by simp; omega)]
      exact m1
    · rw [List.getElem?_append_right (by omega)] at hk
      simp only [tl, List.getElem?_map, Option.map_eq_some_iff] at hk
      obtain ⟨u, m1, rfl⟩ := hk
      rw [hhl] at m1
      refine ⟨u, ?_, hz0 u (by simpa using List.mem_of_getElem? m1), .c u⟩
      rw [hrl, Array.getElem?_append_right (by simp; omega)]
      simp only [List.size_toArray, k1]
      rw [← Array.getElem?_toList]
      exact m1
  have hrs : row.size = ((ys.drop o1).take (l1 * e.sz) ++ tl).length := by
    rw [hrl, List.length_append, hhl, Array.size_append]
    simp [tl, k1]
  have hN2 := h w.heap.size cap tl (by omega) hhl (by rw [htl, ← Nat.add_mul]; congr 1; omega)
  rw [hcap]
  refine hK _ _ (hN2 _ _ ⟨A, SatA.put ?_ (blt_lt hd) (.c _)⟩)
  exact hA'.step (.push _ _ _) (fun _ _ h => h) (hA'.hp.push_box (us := row) (t := et) hA'.keep.size hrs hrc)
theorem run_apart {tS tR : TypeId} {va b off l cb lA cA oA : Nat} {csA us : Array Value} {tA tB : TypeId} {fz : Nat × Nat} (hU : P.underlying tS = some (.slice et)) (hT : tySz P et = some (g, m, B)) (ha : w.heap[va]? = some (.cells csA tA fz)) (hb : w.heap[b]? = some (.cells us tB (0, 0))) (hne : va ≠ b) (hkA : csA.size ≠ 0) (hkB : us.size ≠ 0) :
    (Extern.SlicesOverlaps.overlaps #[tS, tS] #[tR] #[sv va oA lA cA, sv b off l cb]).run P w = .ok (.bool false) w := by
  have hsa : w.shape? va = some (tA, csA.size) := by simp [World.shape?, ha]
  have hsb : w.shape? b = some (tB, us.size) := by simp [World.shape?, hb]
  have hfb : ∀ q, w.frozen? ⟨b, q, none⟩ = false := fun q => by simp [World.frozen?, hb]
  have hnb : (va != b) = true := by simpa using hne
  have hnb' : (va == b) = false := by simpa using hne
  obtain ⟨nA, hnA⟩ : ∃ nA, csA.size = nA + 1 := ⟨csA.size - 1, by omega⟩
  rw [hnA] at hsa
  obtain ⟨nB, hnB⟩ : ∃ nB, us.size = nB + 1 := ⟨us.size - 1, by omega⟩
  rw [hnB] at hsb
  change Sem.run P (α := Value) (do
    let some t := (#[tS, tS] : Array TypeId)[0]? | stuck "slices.overlaps: no parameter types"
    let .slice elem ← underlying t | stuck "slices.overlaps: slice type expected"
    let size ← sizeOf elem
    match (some ⟨va, oA, none⟩ : Option Addr), (some ⟨b, off, none⟩ : Option Addr) with
    | some a, some b =>
      if lA = 0 ∨ l = 0 ∨ size = 0 then pure (Value.bool false)
      else if a.block != b.block && (← frozen a) && (← frozen b) then unsupported .addressObserved
      else do
        if a.block != b.block then do
          noView a; noView b
          if ← mayBeOne a b then return Value.bool ((← choose (.extern "sameAddr.stringBytes" 2)) == 1)
        pure (Value.bool (a.block == b.block && a.off < b.off + l * size && b.off < a.off + lA * size))
    | _, _ => pure (Value.bool false)) w = _
  by_cases h0 : lA = 0 ∨ l = 0 ∨ m = 0
  · simp [run_underlying _ hU, run_sizeOf hT, h0]
  · cases hf1 : w.frozen? ⟨va, oA, none⟩ <;> cases hf2 : w.frozen? ⟨va, nA + 1, none⟩ <;>
      simp [run_underlying _ hU, run_sizeOf hT, h0, hnb, hnb', frozen, noView, viewAt, mayBeOne, stringish, shape, Sem.run, hsa, hsb, hf1, hf2, hfb]
theorem QW.apart (i : Nat) {f : FuncId} {tS tR : TypeId} {tys : Array TypeId} {b off l cb : Nat} {ys : List AV} {fr clip : Bool} {e : ETy} {xs : List (List AV)} (hU : P.underlying tS = some (.slice et)) (hT : tySz P et = some (g, m, B))
    (hf : ∀ u v w, (callFunc f #[u, v]).run P w = ((Extern.SlicesOverlaps.overlaps #[tS, tS] #[tR] #[u, v]).run P w).andThen fun v w' => .ok (.value v) w')
    (hx : Ev E ⟨n, env, own, F, D⟩ x (.sl fr clip e xs)) (hy : Ev E ⟨n, env, own, F, D⟩ y (.c (sv b off l cb))) (ho : own[i]? = some (.box b ys)) (hn : xs.flatten ≠ []) (hn2 : ys ≠ []) :
    QW P E ⟨n, env, own, F, D⟩ ⟨dd, .call ⟨.value (.func f), #[x, y], tys⟩, ty, pos, af, gd⟩ (.c (.bool false)) := .pure fun A a w hs => by
  refine ⟨.bool false, ?_, .c _⟩
  obtain ⟨ad, cap, hv, _, _, hc⟩ := (hx A a w hs).of_sl
  obtain ⟨us, tt, h1, h2, h3⟩ := (hs.hp.own _ (List.mem_of_getElem? ho) : (Own.box b ys).ok w A)
  rcases hc with rfl | ⟨va, oA, csA, tA, fz, rfl, hAb, hb, hxl, _, hc⟩
  · exact absurd rfl hn
  have hne : va ≠ b := fun he => by
    subst he
    exact (hs.hp.fp va (fps_mem (List.mem_of_getElem? ho) (by simp [Own.fp]))).2.2 fr hAb
  have hkA : csA.size ≠ 0 := fun h0 => by
    obtain ⟨y0, hy0⟩ : ∃ y0, xs.flatten[0]? = some y0 := by
      cases hxf : xs.flatten with
      | nil => exact absurd hxf hn
      | cons a0 r => exact ⟨a0, rfl⟩
    obtain ⟨u, m1, _⟩ := hc 0 y0 hy0
    have := (Array.getElem?_eq_some_iff.1 m1).1
    omega
  have hkB : us.size ≠ 0 := by rw [h2]; exact fun h0 => hn2 (List.length_eq_zero_iff.1 h0)
  have hr := run_apart (P := P) (tR := tR) (oA := oA) (lA := xs.length) (cA := cap) (off := off) (l := l) (cb := cb) hU hT hb h1 hne hkA hkB
  have := hf (sv va oA xs.length cap) (sv b off l cb) w
  rw [hr] at this
  simp only [execOp, resolve, Act.eval, Deferred.ofValue, Sem.run_bind, Sem.run_pure, Result.andThen_ok, invoke]
  simpa [hv, hy.eq hs, Result.andThen] using this
theorem JL.cutAny (i : Nat) {v : Value} {e : ETy} {xs : List (List AV)} {l : Nat} {j : Int} (hU : P.underlying t = some (.slice et)) (hT : tySz P et = some (g, m, B)) (hx : Ev E ⟨n, env, own, F, D⟩ x (.c v)) (ho : own[i]? = some (.arr v e xs)) (hlo : Ev E ⟨n, env, own, F, D⟩ lo (.c (.int k j))) (hj : j = (l : Int)) (hl : l ≤ xs.length) (hd : Nat.blt d n = true)
    (h : ∀ u, JL P E ops rest ⟨n, (d, .c u) :: env, own, F, D⟩ Q) : JL P E ops (⟨some d, .slice t x (some lo) none none, ty, pos, af, none⟩ :: rest) ⟨n, env, own, F, D⟩ Q := fun a w ⟨A, hA⟩ => by
  refine wpListIn_plain rfl fun K hK => ?_
  refine wpR (by intro c h; cases h) ?_
  unfold Oper.wp
  have hv : ∃ ad cap, v = .slice ad xs.length cap ∧ xs.length ≤ cap := by
    rcases hA.arr i ho with ⟨a0, hv, hx0⟩ | ⟨b, cap, us, t', hv, _, hle, _⟩
    · subst hx0; exact ⟨a0, 0, hv, Nat.le_refl _⟩
    · exact ⟨_, _, hv, hle⟩
  obtain ⟨ad, cap, rfl, hle⟩ := hv
  have := run_slice (P := P) (w := w) (ad := ad) (k := k) (k' := .i64) hU hT (some l) none (len := xs.length) (cap := cap) (by simpa using hl) (by simpa using hle)
  simp only [bnd, Option.getD_some, Option.getD_none] at this
  have he : (execOp a.eval ⟨some d, .slice t x (some lo) none none, ty, pos, af, none⟩).run P w = .ok (.value (.slice (if cap = l then ad else ad.map (·.add (l * m))) (xs.length - l) (cap - l))) w := by
    simp only [execOp, hx.eq hA, Option.map_some, Option.map_none, EvBnd hlo hj hA, Sem.run_bind, this, Result.andThen_ok, Sem.run_pure]
  rw [he, Oper.upon_value]
  exact hK _ _ (h _ _ _ ⟨A, hA.put (blt_lt hd) (.c _)⟩)
end
/-! ### plain: an element laid in, or taken out -/
theorem splice_take {α : Type} {base X ys : List α} {a m : Nat} (h : a ≤ X.length) (hm : ys.length = m) (L : List α) (hL : X.length + m ≤ L.length)
    (hg : ∀ k, k < X.length + m → L[k]? = if k < a then X[k]? else if k < a + m then ys[k - a]? else X[k - m]?) : L.take (X.length + m) = X.take a ++ ys ++ X.drop a := by
  apply List.ext_getElem?
  intro k
  rw [List.getElem?_take]
  by_cases hk : k < X.length + m
  · rw [if_pos hk, hg k hk]
    by_cases h1 : k < a
    · rw [if_pos h1, List.append_assoc, List.getElem?_append_left (by simp; omega), List.getElem?_take, if_pos h1]
    · rw [if_neg h1]
      by_cases h2 : k < a + m
      · rw [if_pos h2, List.getElem?_append_left (by simp; omega), List.getElem?_append_right (by simp; omega), List.length_take, Nat.min_eq_left h]
      · rw [if_neg h2, List.getElem?_append_right (by simp; omega), List.getElem?_drop]
        congr 1
        simp
        omega
  · rw [if_neg hk, List.getElem?_eq_none]
    simp; omega
theorem ins_shift {α : Type} {X sp ys : List α} {a m : Nat} (h : a ≤ X.length) (hm : ys.length = m) (hl : X.length + m ≤ (X ++ sp).length) :
    (splice (splice (X ++ sp) (a + m) (((X ++ sp).drop a).take (X.length - a))) a ys).take (X.length + m) = X.take a ++ ys ++ X.drop a := by
  have hl1 : (((X ++ sp).drop a).take (X.length - a)).length = X.length - a := by simp; omega
  have hf1 : a + m + (((X ++ sp).drop a).take (X.length - a)).length ≤ (X ++ sp).length := by rw [hl1]; omega
  have hf2 : a + ys.length ≤ (splice (X ++ sp) (a + m) (((X ++ sp).drop a).take (X.length - a))).length := by rw [splice_length hf1]; omega
  refine splice_take (base := X) h hm _ (by rw [splice_length hf2, splice_length hf1]; omega) fun k hk => ?_
  rw [splice_get hf2, splice_get hf1, hl1, hm]
  by_cases h1 : k < a
  · rw [if_neg (by omega), if_neg (by omega), if_pos h1, List.getElem?_append_left (by omega)]
  · rw [if_neg h1]
    by_cases h2 : k < a + m
    · rw [if_pos ⟨by omega, h2⟩, if_pos h2]
    · rw [if_neg (by omega), if_neg h2, if_pos ⟨by omega, by omega⟩, List.getElem?_take, if_pos (by omega), List.getElem?_drop, List.getElem?_append_left (by omega)]
      congr 1; omega
theorem ins_grow {α : Type} {X sp tl ys : List α} {a m : Nat} (h : a ≤ X.length) (hm : ys.length = m) (hl : X.length + m ≤ a + tl.length) :
    (splice (splice (((X ++ sp).drop 0).take a ++ tl) a ys) (a + m) (((X ++ sp).drop a).take (X.length - a))).take (X.length + m) = X.take a ++ ys ++ X.drop a := by
  have hh : (((X ++ sp).drop 0).take a).length = a := by simp; omega
  have hl1 : (((X ++ sp).drop a).take (X.length - a)).length = X.length - a := by simp; omega
  have hbl : (((X ++ sp).drop 0).take a ++ tl).length = a + tl.length := by rw [List.length_append, hh]
  have hf1 : a + ys.length ≤ (((X ++ sp).drop 0).take a ++ tl).length := by rw [hbl]; omega
  have hf2 : a + m + (((X ++ sp).drop a).take (X.length - a)).length ≤ (splice (((X ++ sp).drop 0).take a ++ tl) a ys).length := by rw [splice_length hf1, hl1, hbl]; omega
  refine splice_take (base := X) h hm _ (by rw [splice_length hf2, splice_length hf1, hbl]; omega) fun k hk => ?_
  rw [splice_get hf2, splice_get hf1, hl1, hm]
  by_cases h1 : k < a
  · rw [if_neg (by omega), if_neg (by omega), if_pos h1, List.getElem?_append_left (by omega), List.getElem?_take, if_pos h1, List.drop_zero, List.getElem?_append_left (by omega)]
  · rw [if_neg h1]
    by_cases h2 : k < a + m
    · rw [if_neg (by omega), if_pos ⟨by omega, h2⟩, if_pos h2]
    · rw [if_neg h2, if_pos ⟨by omega, by omega⟩, List.getElem?_take, if_pos (by omega), List.getElem?_drop, List.getElem?_append_left (by omega)]
      congr 1; omega
theorem ins_flat {α : Type} {sz : Nat} {xs : List (List α)} {ys : List α} {i : Nat} (hs : ∀ x ∈ xs, x.length = sz) : (xs.take i ++ [ys] ++ xs.drop i).flatten = xs.flatten.take (i * sz) ++ ys ++ xs.flatten.drop (i * sz) := by
  rw [List.flatten_append, List.flatten_append, flatten_take xs hs, flatten_drop xs hs]
  simp
theorem ins_flen {α : Type} {sz : Nat} {xs : List (List α)} {ys : List α} {i : Nat} (hs : ∀ x ∈ xs, x.length = sz) (hy : ys.length = sz) : (xs.take i ++ [ys] ++ xs.drop i).flatten.length = xs.flatten.length + sz := by
  rw [ins_flat hs, List.length_append, List.length_append, List.length_take, List.length_drop, hy]
  omega
theorem ins_len {α : Type} {xs : List (List α)} {ys : List α} {i : Nat} (hi : i ≤ xs.length) : (xs.take i ++ [ys] ++ xs.drop i).length = xs.length + 1 := by simp; omega
theorem ins_sz {α : Type} {sz : Nat} {xs : List (List α)} {ys : List α} {i : Nat} (hs : ∀ x ∈ xs, x.length = sz) (hy : ys.length = sz) : ∀ x ∈ xs.take i ++ [ys] ++ xs.drop i, x.length = sz := by
  intro x hx
  simp only [List.mem_append, List.mem_singleton] at hx
  rcases hx with (hx | rfl) | hx
  · exact hs x (List.mem_of_mem_take hx)
  · exact hy
  · exact hs x (List.mem_of_mem_drop hx)
end Go.Proofs.YtjhonjdhanlbkaaGreat.J

/- Fields of structs that are values, elements of arrays that are values. -/
namespace Go.Proofs.YtjhonjdhanlbkaaGreat.J
open Go Go.RowKit
section
variable {P : Program} {E : Ent} {st : St} {t t' et ty : TypeId} {pos : String} {af : Array Edge} {dd : Option Tmp} {gd : Option (Nat × Bool)} {x y : Operand} {w : World} {n B : Nat}
theorem run_partA {cs : Array Value} {off : Nat} (hT : tySz P t' = some (true, n, B)) : (part t' cs off).run P w = .ok (.agg (cs.extract off (off + n))) w := by
  simp only [part, Sem.run_bind, run_isAgg hT, Result.andThen_ok, if_true, run_sizeOf hT, Sem.run_pure]
theorem Rd.part {A : Foot} {vs : Array Value} {ys : List AV} {off : Nat} (hn : vs.size = ys.length) (h : Cells w A vs 0 ys) (hle : off + n ≤ ys.length) : Rd w A (.agg (vs.extract off (off + n))) (.agg ((ys.drop off).take n)) := by
  refine .mk_agg (by simp; omega) fun k y hk => ?_
  rw [List.getElem?_take] at hk
  split at hk
  · rename_i hlt
    rw [List.getElem?_drop] at hk
    obtain ⟨u, h1, h0, h2⟩ := h _ y hk
    rw [Nat.zero_add] at h1 ⊢
    exact ⟨u, by rw [Array.getElem?_extract, if_pos (by omega)]; exact h1, h0, h2⟩
  · cases hk
theorem QW.indexA {ys zs : List AV} {ln m : Nat} {k : IntKind} {i : Int} (hU : P.underlying t = some (.array ln et)) (hT : tySz P et = some (true, n, B)) (h : Ev E st x (.agg ys)) (hi : Ev E st y (.c (.int k i))) (him : i = (m : Int)) (hm : m < ln) (hz : (ys.drop (m * n)).take n = zs) (hl : zs.length = n) (h0 : Nat.blt 0 n = true := by rfl) :
    QW P E st ⟨dd, .index t x y, ty, pos, af, gd⟩ (.agg zs) := .pure fun A a w hs => by
  obtain ⟨vs, hv, hn, hc⟩ := (h A a w hs).of_agg
  subst him hz
  have hlt : (m : Int) < (ln : Int) := by omega
  have hp := blt_lt h0
  refine ⟨_, by simp [execOp, Instr.index, asIntOf, asInt, hi.eq hs, run_underlying _ hU, hv, run_sizeOf hT, run_partA hT, hm], Rd.part hn hc ?_⟩
  rw [List.length_take, List.length_drop] at hl; omega
end
/-! ### appends onto a slice that is read alone and has no spare places, or onto an own array -/
section
variable {P : Program} {E : Ent} {Q : Exit → St → Prop} {n : Nat} {env : List (Nat × AV)} {own : List Own} {F : List (Value × AV)} {D : List Deferred} {ops : Array Oper} {rest : List Oper} {c : Code}
variable {A : Foot} {a : Act} {w w' : World} {t tx et ty : TypeId} {pos : String} {af : Array Edge} {d : Nat} {dd : Option Tmp} {gd : Option (Nat × Bool)} {s x : Operand}
end
section
variable {P : Program} {E : Ent} {st : St} {ty : TypeId} {pos : String} {af : Array Edge} {dd : Option Tmp} {gd : Option (Nat × Bool)} {x y z : Operand}
end
end Go.Proofs.YtjhonjdhanlbkaaGreat.J

/- Where two ways meet: what holds of both is told, and the rest is walked once. -/
namespace Go.Proofs.YtjhonjdhanlbkaaGreat.J
open Go Go.RowKit
section
variable {P : Program} {E : Ent} {Q : Exit → St → Prop} {n : Nat} {env : List (Nat × AV)} {own : List Own} {F : List (Value × AV)} {D : List Deferred}
theorem J.cutK {ι : Type} {x y : Code} (ks : List Nat) (ch : ι → List (Nat × AV)) (ow : ι → List Own → List Own) (p : ι → Prop)
    (h : J P E x ⟨n, env, own, F, D⟩ (thenQ (fun s => ∃ j, p j ∧ Wk s ⟨n, ch j ++ pickEnv ks env, ow j own, F, D⟩) Q))
    (k : ∀ i, p i → J P E y ⟨n, ch i ++ pickEnv ks env, ow i own, F, D⟩ Q) : J P E (.seq x y) ⟨n, env, own, F, D⟩ Q :=
  J.seq (h.mono fun e s hq => by
    cases e <;> first | exact hq | skip
    obtain ⟨j, hj, hw⟩ := hq
    exact J.weak hw (k j hj))
end
section
variable {P : Program} {E : Ent} {st : St} {t ty : TypeId} {pos : String} {af : Array Edge} {dd : Option Tmp} {gd : Option (Nat × Bool)}
theorem QW.buildA {sz : Nat} {zc : List Value} {idx : List Nat} {l : List Operand} {zs ys : List AV} {parts : Array (Nat × Operand)} (hP : arrOf P t = some sz) (hz : zeroCells P t = some zc) (hz1 : zc.all (·.oneCell') = true)
    (hl : EvL E st l zs) (hparts : parts = (idx.zip l).toArray) (hp : zs.all AV.plain = true) (hi : idx.length = l.length) (hf : fillA (fun i => some (i * sz, sz)) (zc.map AV.c) (idx.zip (zs.map AV.cellsOf)) = some ys) :
    QW P E st ⟨dd, .build t parts, ty, pos, af, gd⟩ (.agg ys) := .pure fun A a w hs => by
  obtain ⟨ti, zv, h1, h2, h3⟩ := zero_get hz
  obtain ⟨cs', r1, r2, r3⟩ := run_fill (fun i => some (i * sz, sz)) (PartsR.of hs hl hp hi) (cs := zv.cells) (ys := zc.map AV.c) (by rw [← Array.length_toList, h3, List.length_map]) (by
    have := Cells.const (w := w) (A := A) hz1
    rw [← h3] at this ⊢
    rwa [Array.toArray_toList] at this) hf
  refine ⟨.agg cs', ?_, .mk_agg r2 r3⟩
  have hb : P.built t ((parts.map fun (i, x) => (i, a.eval x)).toList) = some cs' := by
    unfold Program.built
    unfold arrOf at hP
    cases hu : P.underlying t with
    | none => simp [hu] at hP
    | some td =>
      cases td <;> try (simp [hu] at hP; done)
      simp only [hu] at hP
      rw [Option.map_eq_some_iff] at hP
      obtain ⟨i2, g1, rfl⟩ := hP
      simp only [h1, h2, g1]
      rw [← r1, hparts]
      simp
  simp only [execOp, Sem.run_bind, run_build w t _ _ hb, Result.andThen_ok, Sem.run_pure]
theorem fill_two {z0 z1 a b : List AV} {m : Nat} (h0 : z0.length = m) (h1 : z1.length = m) (ha : a.length = m) (hb : b.length = m) : fillA (fun i => some (i * m, m)) (z0 ++ z1) [(0, a), (1, b)] = some (a ++ b) := by
  have e1 : splice (z0 ++ z1) 0 a = a ++ z1 := by
    unfold splice
    rw [List.take_zero, List.nil_append, Nat.zero_add, ha, ← h0, List.drop_left]
  have e2 : splice (a ++ z1) m b = a ++ b := by
    unfold splice
    rw [← ha, List.take_left, List.drop_eq_nil_of_le (by simp; omega), List.append_nil]
  have b1 : Nat.ble m (m + m) = true := Nat.ble_eq_true_of_le (by omega)
  have b2 : Nat.ble (m + m) (m + m) = true := Nat.ble_eq_true_of_le (by omega)
  simp [fillA, ha, hb, h0, h1, e1, e2, b1, b2]
end
end Go.Proofs.YtjhonjdhanlbkaaGreat.J

/- Walks: whole numbers compared; lists of them. -/
namespace Go.Proofs.YtjhonjdhanlbkaaGreat.J
open Go Go.RowKit
set_option maxRecDepth 10000
set_option maxHeartbeats 4000000
def eI64 : ETy := ⟨1, 8⟩
def intsAV (l : List Int) : List (List AV) := l.map fun n => [.c (.int .i64 n)]
theorem intsAV_length (l : List Int) : (intsAV l).length = l.length := by simp [intsAV]
theorem intsAV_getE {l : List Int} {i : Nat} (h : i < l.length) : (intsAV l)[i]? = some [.c (.int .i64 l[i])] := by simp [intsAV, h]
theorem fdiv2 {lo hi : Nat} : ((lo : Int) + (hi : Int)).fdiv (2 ^ (min (1 : Int).toNat IntKind.u64.bits)) = (((lo + hi) / 2 : Nat) : Int) := by
  rw [show (2 : Int) ^ (min (1 : Int).toNat IntKind.u64.bits) = 2 from rfl, Int.fdiv_eq_ediv_of_nonneg _ (by decide)]
  omega
theorem nanInt_ok (n : Int) : Fn Tryz.prog 143 [.c (.int .i64 n)] (.c (.bool false)) := by
  refine AC.of_J Tryz.func143 rfl Tryz.ntmps143 rfl fun w0 A0 => ?_
  refine J.seq ?_
  refine J.region_lit ?_
  refine JL.q rfl rfl rfl (QW.assign .const) ?_
  refine JL.nil ?_
  refine thenQ.n ?_
  refine J.seq ?_
  refine J.region_lit ?_
  refine JL.q rfl rfl rfl (QW.move (.tmp rfl)) ?_
  refine JL.q rfl rfl rfl (QW.move (.tmp rfl)) ?_
  refine JL.q rfl rfl rfl (QW.neq (.tmp rfl) (.tmp rfl)) ?_
  refine JL.q rfl rfl rfl (QW.assign (.tmp rfl)) ?_
  refine JL.nil ?_
  refine thenQ.n ?_
  refine J.ret ?_
  exact ⟨_, selP [] _, _, RetEv.one rfl (REv.tmp rfl (.refl _)), rfl, sel_perm [] _, ⟨ret_b (by simp), rfl⟩⟩
theorem cmpInt_ok (a b : Int) : Fn Tryz.prog 122 [.c (.int .i64 a), .c (.int .i64 b)] (.c (.int .i64 (if a < b then -1 else if b < a then 1 else 0))) := by
  refine AC.of_J Tryz.func122 rfl Tryz.ntmps122 rfl fun w0 A0 => ?_
  refine J.seq ?_
  refine J.region_lit ?_
  refine JL.q rfl rfl rfl (QW.assign .const) ?_
  refine JL.nil ?_
  refine thenQ.n ?_
  refine J.seq ?_
  refine J.region_lit ?_
  refine JL.q rfl rfl rfl (QW.move (.tmp rfl)) ?_
  refine JL.q rfl rfl rfl (QW.call gofn143 (.cons (.tmp rfl) .nil) (nanInt_ok _)) ?_
  refine JL.q rfl rfl rfl (QW.assign (.tmp rfl)) ?_
  refine JL.nil ?_
  refine thenQ.n ?_
  refine J.seq ?_
  refine J.region_lit ?_
  refine JL.q rfl rfl rfl (QW.move (.tmp rfl)) ?_
  refine JL.q rfl rfl rfl (QW.call gofn143 (.cons (.tmp rfl) .nil) (nanInt_ok _)) ?_
  refine JL.q rfl rfl rfl (QW.assign (.tmp rfl)) ?_
  refine JL.nil ?_
  refine thenQ.n ?_
  refine J.seq ?_
  refine J.seq ?_
  refine J.region_lit ?_
  refine JL.q rfl rfl rfl (QW.move (.tmp rfl)) ?_
  refine JL.nil ?_
  refine thenQ.n ?_
  refine J.cond (.tmp rfl) (fun c1 => absurd c1 (by simp)) (fun c1 => ?_)
  refine J.skip ?_
  refine thenQ.n ?_
  refine J.seq ?_
  refine J.seq ?_
  refine J.region_lit ?_
  refine JL.q rfl rfl rfl (QW.move (.tmp rfl)) ?_
  refine JL.nil ?_
  refine thenQ.n ?_
  refine J.cond (.tmp rfl) (fun c2 => absurd c2 (by simp)) (fun c2 => ?_)
  refine J.skip ?_
  refine thenQ.n ?_
  refine J.seq ?_
  refine J.seq ?_
  refine J.region_lit ?_
  refine JL.q rfl rfl rfl (QW.move (.tmp rfl)) ?_
  refine JL.q rfl rfl rfl (QW.move (.tmp rfl)) ?_
  refine JL.q rfl rfl rfl (QW.lss (.tmp rfl) (.tmp rfl)) ?_
  refine JL.nil ?_
  refine thenQ.n ?_
  refine J.cond (.tmp rfl) (fun c3 => ?_) (fun c3 => ?_)
  · skip
    simp at c3
    refine J.seq ?_
    refine J.region_lit ?_
    refine JL.q rfl rfl rfl (QW.assign .const) ?_
    refine JL.nil ?_
    refine thenQ.n ?_
    refine J.ret ?_
    refine thenQ.r ?_
    exact ⟨_, selP [] _, _, RetEv.one rfl (REv.tmp rfl (.refl _)), rfl, sel_perm [] _, ⟨by rw [if_pos c3], rfl⟩⟩
  simp at c3
  refine J.skip ?_
  refine thenQ.n ?_
  refine J.seq ?_
  refine J.seq ?_
  refine J.region_lit ?_
  refine JL.q rfl rfl rfl (QW.move (.tmp rfl)) ?_
  refine JL.q rfl rfl rfl (QW.move (.tmp rfl)) ?_
  refine JL.q rfl rfl rfl (QW.gtr (.tmp rfl) (.tmp rfl)) ?_
  refine JL.nil ?_
  refine thenQ.n ?_
  refine J.cond (.tmp rfl) (fun c4 => ?_) (fun c4 => ?_)
  · skip
    simp at c4
    refine J.seq ?_
    refine J.region_lit ?_
    refine JL.q rfl rfl rfl (QW.assign .const) ?_
    refine JL.nil ?_
    refine thenQ.n ?_
    refine J.ret ?_
    refine thenQ.r ?_
    exact ⟨_, selP [] _, _, RetEv.one rfl (REv.tmp rfl (.refl _)), rfl, sel_perm [] _, ⟨by rw [if_neg (by omega), if_pos (by omega)], rfl⟩⟩
  simp at c4
  refine J.skip ?_
  refine thenQ.n ?_
  refine J.seq ?_
  refine J.region_lit ?_
  refine JL.q rfl rfl rfl (QW.assign .const) ?_
  refine JL.nil ?_
  refine thenQ.n ?_
  refine J.ret ?_
  exact ⟨_, selP [] _, _, RetEv.one rfl (REv.tmp rfl (.refl _)), rfl, sel_perm [] _, ⟨by rw [if_neg (by omega), if_neg (by omega)], rfl⟩⟩
end Go.Proofs.YtjhonjdhanlbkaaGreat.J

/- Walks: steps into values: what is found, what is got. -/
namespace Go.Proofs.YtjhonjdhanlbkaaGreat.J
open Go Go.RowKit
set_option maxRecDepth 10000
set_option maxHeartbeats 4000000
theorem nanStr_ok (s : Str) : Fn Tryz.prog 154 [.c (str s)] (.c (.bool false)) := by
  refine AC.of_J Tryz.func154 rfl Tryz.ntmps154 rfl fun w0 A0 => ?_
  refine J.seq ?_
  refine J.region_lit ?_
  refine JL.q rfl rfl rfl (QW.assign .const) ?_
  refine JL.nil ?_
  refine thenQ.n ?_
  refine J.seq ?_
  refine J.region_lit ?_
  refine JL.q rfl rfl rfl (QW.move (.tmp rfl)) ?_
  refine JL.q rfl rfl rfl (QW.move (.tmp rfl)) ?_
  refine JL.q rfl rfl rfl (QW.neq_s (.tmp rfl) (.tmp rfl)) ?_
  refine JL.q rfl rfl rfl (QW.assign (.tmp rfl)) ?_
  refine JL.nil ?_
  refine thenQ.n ?_
  refine J.ret ?_
  exact ⟨_, selP [] _, _, RetEv.one rfl (REv.tmp rfl (.refl _)), rfl, sel_perm [] _, ⟨ret_b (by simp), rfl⟩⟩
theorem cnanStr_ok (s : Str) : Fn Tryz.prog 145 [.c (str s)] (.c (.bool false)) := by
  refine AC.of_J Tryz.func145 rfl Tryz.ntmps145 rfl fun w0 A0 => ?_
  refine J.seq ?_
  refine J.region_lit ?_
  refine JL.q rfl rfl rfl (QW.assign .const) ?_
  refine JL.nil ?_
  refine thenQ.n ?_
  refine J.seq ?_
  refine J.region_lit ?_
  refine JL.q rfl rfl rfl (QW.move (.tmp rfl)) ?_
  refine JL.q rfl rfl rfl (QW.move (.tmp rfl)) ?_
  refine JL.q rfl rfl rfl (QW.neq_s (.tmp rfl) (.tmp rfl)) ?_
  refine JL.q rfl rfl rfl (QW.assign (.tmp rfl)) ?_
  refine JL.nil ?_
  refine thenQ.n ?_
  refine J.ret ?_
  exact ⟨_, selP [] _, _, RetEv.one rfl (REv.tmp rfl (.refl _)), rfl, sel_perm [] _, ⟨ret_b (by simp), rfl⟩⟩
theorem lessStr_ok (a b : Str) : Fn Tryz.prog 153 [.c (str a), .c (str b)] (.c (.bool (Op.bytesLess a b))) := by
  refine AC.of_J Tryz.func153 rfl Tryz.ntmps153 rfl fun w0 A0 => ?_
  refine J.seq ?_
  refine J.region_lit ?_
  refine JL.q rfl rfl rfl (QW.assign .const) ?_
  refine JL.nil ?_
  refine thenQ.n ?_
  refine J.seq ?_
  refine J.region_lit ?_
  refine JL.q rfl rfl rfl (QW.move (.tmp rfl)) ?_
  refine JL.q rfl rfl rfl (QW.call gofn145 (.cons (.tmp rfl) .nil) (cnanStr_ok _)) ?_
  refine JL.q rfl rfl rfl (QW.move (.tmp rfl)) ?_
  refine JL.g rfl rfl rfl rfl rfl (fun hg => (QW.move (.tmp rfl))) ?_
  refine JL.g rfl rfl rfl rfl rfl (fun hg => (QW.call gofn145 (.cons (.when rfl hg) .nil) (cnanStr_ok _))) ?_
  refine JL.g rfl rfl rfl rfl rfl (fun hg => (QW.not (.when rfl hg))) ?_
  refine JL.q rfl rfl rfl (QW.pick_and (.tmp rfl) (.tmp rfl)) ?_
  refine JL.q rfl rfl rfl (QW.move (.tmp rfl)) ?_
  refine JL.g rfl rfl rfl rfl rfl (fun hg => (QW.move (.tmp rfl))) ?_
  refine JL.g rfl rfl rfl rfl rfl (fun hg => (QW.move (.tmp rfl))) ?_
  refine JL.g rfl rfl rfl rfl rfl (fun hg => (QW.lss_s (.when rfl hg) (.when rfl hg))) ?_
  refine JL.q rfl rfl rfl (QW.pick_or (.tmp rfl) (.tmp rfl)) ?_
  refine JL.q rfl rfl rfl (QW.assign (.tmp rfl)) ?_
  refine JL.nil ?_
  refine thenQ.n ?_
  refine J.ret ?_
  exact ⟨_, selP [] _, _, RetEv.one rfl (REv.tmp rfl (.refl _)), rfl, sel_perm [] _, ⟨ret_b (by simp), rfl⟩⟩
theorem foundStr {l : List Str} {k : Nat} {s : Str} : (decide (l[k]? = some s)) = (decide ((k : Int) < (l.length : Int)) && ((l.getD k []) == s || false && false)) := by
  by_cases hk : k < l.length
  · rw [Bool.eq_iff_iff]; simp [hk, List.getD]
  · rw [Bool.eq_iff_iff]; simp [hk]
theorem bs_ok {fr c : Bool} {l : List Str} {s : Str} {k : Nat} (hl : l.length ≤ 1000) (hk : k ≤ l.length) (h1 : ∀ i (h : i < l.length), i < k → Op.bytesLess l[i] s = true) (h2 : ∀ i (h : i < l.length), k ≤ i → Op.bytesLess l[i] s = false) : Fn Tryz.prog 149 [.sl fr c eStr (keysAV l), .c (str s)] (.tup [.c (.int .i64 (k : Int)), .c (.bool (decide (l[k]? = some s)))]) := by
  refine AC.of_J Tryz.func149 rfl Tryz.ntmps149 rfl fun w0 A0 => ?_
  refine J.seq ?_
  refine J.region_lit ?_
  refine JL.q rfl rfl rfl (QW.assign .const) ?_
  refine JL.q rfl rfl rfl (QW.assign .const) ?_
  refine JL.nil ?_
  refine thenQ.n ?_
  refine J.seq ?_
  refine J.region_lit ?_
  refine JL.q rfl rfl rfl (QW.move (.tmp rfl)) ?_
  refine JL.q rfl rfl rfl (by first | exact QW.len_slE sl26 (.tmp rfl) (keysAV_length _) | exact QW.len_slE sl26 (.tmp rfl) (V.css_length _ _) | exact QW.len_slE sl26 (.tmp rfl) (StT.css_length _) | exact QW.len_sl sl26 (.tmp rfl) | exact QW.len_nil sl26 (.tmp rfl)) ?_
  refine JL.q rfl rfl rfl (QW.assign (.tmp rfl)) ?_
  refine JL.nil ?_
  refine thenQ.n ?_
  refine J.seq ?_
  refine J.region_lit ?_
  refine JL.q rfl rfl rfl (QW.move (.tmp rfl)) ?_
  refine JL.q rfl rfl rfl (QW.assign .const) ?_
  refine JL.q rfl rfl rfl (QW.assign (.tmp rfl)) ?_
  refine JL.nil ?_
  refine thenQ.n ?_
  refine J.seq ?_
  refine J.block ?_
  refine J.loopK (ι := Nat × Nat) [0, 1, 4, 5, 6] (fun ⟨lo, hi⟩ => [(7, .c (.int .i64 (lo : Int))), (8, .c (.int .i64 (hi : Int)))]) (fun _ oo => oo) (fun ⟨lo, hi⟩ => lo ≤ k ∧ k ≤ hi ∧ hi ≤ l.length) (fun ⟨lo, hi⟩ => hi - lo) ⟨0, l.length⟩ (⟨Nat.zero_le _, hk, Nat.le_refl _⟩) (Wk.re (.cons rfl (.refl _) (.cons rfl (.refl _) (.cons rfl (.refl _) (.cons rfl (.refl _) (.cons rfl (.refl _) (.cons rfl (.refl _) (.cons rfl (.refl _) .nil))))))) (Reown.refl _) (fun _ h => by first | exact h | simp [h])) ?_
  intro ⟨lo, hi⟩ ⟨ha, hb, hc⟩
  refine J.conv (by (try simp only [id_eq, stepsO, List.map_cons, List.map_nil, valO, nthO, curO, mrg, List.reverse_cons, List.reverse_nil, List.nil_append, List.cons_append, List.append_nil, List.getElem?_cons_zero, List.getElem?_cons_succ, Option.map_some, Option.getD_some, List.set_cons_zero, List.set_cons_succ, AV.cellsOf, splice_zero, splice_succ, Nat.zero_add, Nat.reduceAdd]); rfl) ?_
  refine J.seq ?_
  refine J.seq ?_
  refine J.region_lit ?_
  refine JL.q rfl rfl rfl (QW.move (.tmp rfl)) ?_
  refine JL.q rfl rfl rfl (QW.move (.tmp rfl)) ?_
  refine JL.q rfl rfl rfl (QW.lss (.tmp rfl) (.tmp rfl)) ?_
  refine JL.nil ?_
  refine thenQ.n ?_
  refine J.cond (.tmp rfl) (fun c1 => ?_) (fun c1 => ?_)
  · skip
    have hlt : lo < hi := by simpa using c1
    refine J.skip ?_
    refine thenQ.n ?_
    refine J.block ?_
    refine J.seq ?_
    refine J.region_lit ?_
    refine JL.q rfl rfl rfl (QW.move (.tmp rfl)) ?_
    refine JL.q rfl rfl rfl (QW.move (.tmp rfl)) ?_
    refine JL.q rfl rfl rfl (QW.add (.tmp rfl) (.tmp rfl) (by first | exact w64n (by first | rfl | omega | (simp; done)) (by omega) | exact w64 (by omega) | rfl)) ?_
    refine JL.q rfl rfl rfl (QW.conv_int us3 iu159 (.tmp rfl) (by first | exact wu64 (by omega) | rfl)) ?_
    refine JL.q rfl rfl rfl (QW.shr (.tmp rfl) .const (by decide) fdiv2) ?_
    refine JL.q rfl rfl rfl (QW.conv_int us159 iu3 (.tmp rfl) (by first | exact w64n (by first | rfl | omega | (simp; done)) (by omega) | exact w64 (by omega) | rfl)) ?_
    refine JL.q rfl rfl rfl (QW.assign (.tmp rfl)) ?_
    refine JL.nil ?_
    refine thenQ.n ?_
    refine J.seq ?_
    refine J.region_lit ?_
    refine JL.q rfl rfl rfl (QW.move (.tmp rfl)) ?_
    refine JL.q rfl rfl rfl (QW.move (.tmp rfl)) ?_
    refine JL.q rfl rfl rfl (QW.index_sl sl26 ty9 rfl (.tmp rfl) (.tmp rfl) (by first | rfl | omega | (simp; done)) (by exact keysAV_getE (ks := l) (i := (lo + hi) / 2) (by omega))) ?_
    refine JL.q rfl rfl rfl (QW.load_ref1 ty9 (.tmp rfl) rfl) ?_
    refine JL.q rfl rfl rfl (QW.move (.tmp rfl)) ?_
    refine JL.q rfl rfl rfl (QW.call gofn153 (.cons (.tmp rfl) (.cons (.tmp rfl) .nil)) (lessStr_ok _ _)) ?_
    refine JL.nil ?_
    refine thenQ.n ?_
    refine J.cond (.tmp rfl) (fun c2 => ?_) (fun c2 => ?_)
    · skip
      have hm : Op.bytesLess (l[(lo + hi) / 2]'(by omega)) s = true := c2
      refine J.region_lit ?_
      refine JL.q rfl rfl rfl (QW.move (.tmp rfl)) ?_
      refine JL.q rfl rfl rfl (QW.add (.tmp rfl) .const (by first | exact w64n (by first | rfl | omega | (simp; done)) (by omega) | exact w64 (by omega) | rfl)) ?_
      refine JL.q rfl rfl rfl (QW.assign (.tmp rfl)) ?_
      refine JL.nil ?_
      refine blkQ.n ?_
      refine thenQ.n ?_
      exact ⟨⟨(lo + hi) / 2 + 1, hi⟩, ⟨Nat.lt_of_not_le fun h => absurd (h2 _ (by omega) h) (by rw [hm]; decide), hb, hc⟩, by show hi - ((lo + hi) / 2 + 1) < hi - lo; omega, Wk.re (.cons rfl (.refl _) (.cons rfl (.refl _) (.cons rfl (.refl _) (.cons rfl (.refl _) (.cons rfl (.refl _) (.cons rfl (.refl _) (.cons rfl (.refl _) .nil))))))) (Reown.refl _) (fun _ h => by first | exact h | simp [h])⟩
    have hm : Op.bytesLess (l[(lo + hi) / 2]'(by omega)) s = false := c2
    refine J.region_lit ?_
    refine JL.q rfl rfl rfl (QW.move (.tmp rfl)) ?_
    refine JL.q rfl rfl rfl (QW.assign (.tmp rfl)) ?_
    refine JL.nil ?_
    refine blkQ.n ?_
    refine thenQ.n ?_
    exact ⟨⟨lo, (lo + hi) / 2⟩, ⟨ha, Nat.le_of_not_lt fun h => absurd (h1 _ (by omega) h) (by rw [hm]; decide), by omega⟩, by show (lo + hi) / 2 - lo < hi - lo; omega, Wk.re (.cons rfl (.refl _) (.cons rfl (.refl _) (.cons rfl (.refl _) (.cons rfl (.refl _) (.cons rfl (.refl _) (.cons rfl (.refl _) (.cons rfl (.refl _) .nil))))))) (Reown.refl _) (fun _ h => by first | exact h | simp [h])⟩
  have hge : hi ≤ lo := by simpa using c1
  refine J.exit ?_
  refine thenQ.x ?_
  refine thenQ.x ?_
  refine blkQ.hit ?_
  refine thenQ.n ?_
  refine J.seq ?_
  refine J.region_lit ?_
  refine JL.q rfl rfl rfl (QW.move (.tmp rfl)) ?_
  refine JL.q rfl rfl rfl (QW.move (.tmp rfl)) ?_
  refine JL.q rfl rfl rfl (QW.move (.tmp rfl)) ?_
  refine JL.q rfl rfl rfl (QW.lss (.tmp rfl) (.tmp rfl)) ?_
  refine JL.q rfl rfl rfl (QW.move (.tmp rfl)) ?_
  refine JL.g rfl rfl rfl rfl rfl (fun hg => (QW.move (.tmp rfl))) ?_
  refine JL.g rfl rfl rfl rfl rfl (fun hg => (QW.move (.tmp rfl))) ?_
  refine JL.g rfl rfl rfl rfl rfl (fun hg => (QW.index_sl sl26 ty9 rfl (.when rfl hg) (.when rfl hg) (by first | rfl | omega | (simp; done)) (by exact keysAV_getD (by simp at hg; omega)))) ?_
  refine JL.g rfl rfl rfl rfl rfl (fun hg => (QW.load_ref1 ty9 (.when rfl hg) rfl)) ?_
  refine JL.g rfl rfl rfl rfl rfl (fun hg => (QW.move (.tmp rfl))) ?_
  refine JL.g rfl rfl rfl rfl rfl (fun hg => (QW.eql_s (.when rfl hg) (.when rfl hg))) ?_
  refine JL.g rfl rfl rfl rfl rfl (fun hg => (QW.move (.when rfl hg))) ?_
  refine JL.gg rfl rfl rfl rfl rfl (fun hg => (QW.move (.tmp rfl))) ?_
  refine JL.gg rfl rfl rfl rfl rfl (fun hg => (QW.move (.tmp rfl))) ?_
  refine JL.gg rfl rfl rfl rfl rfl (fun hg => (QW.index_sl sl26 ty9 rfl (.when rfl hg) (.when rfl hg) (by first | rfl | omega | (simp; done)) (by exact keysAV_getD (by simp at hg; omega)))) ?_
  refine JL.gg rfl rfl rfl rfl rfl (fun hg => (QW.load_ref1 ty9 (.when rfl hg) rfl)) ?_
  refine JL.gg rfl rfl rfl rfl rfl (fun hg => (QW.call gofn154 (.cons (.when rfl hg) .nil) (nanStr_ok _))) ?_
  refine JL.gg rfl rfl rfl rfl rfl (fun hg => (QW.move (.when rfl hg))) ?_
  refine JL.gg rfl rfl rfl rfl rfl (fun hg => (QW.move (.tmp rfl))) ?_
  refine JL.gg rfl rfl rfl rfl rfl (fun hg => (QW.call gofn154 (.cons (.when rfl hg) .nil) (nanStr_ok _))) ?_
  refine JL.gg rfl rfl rfl rfl rfl (fun hg => (by first | exact QW.pick_and (.when rfl hg) (.tmp rfl) | exact QW.pick_and2 hg (.when rfl hg) (.tmp rfl))) ?_
  refine JL.g rfl rfl rfl rfl rfl (fun hg => (by first | exact QW.pick_or (.when rfl hg) (.tmp rfl) | exact QW.pick_or2 hg (.when rfl hg) (.tmp rfl))) ?_
  refine JL.q rfl rfl rfl (QW.pick_and (.tmp rfl) (.tmp rfl)) ?_
  refine JL.q rfl rfl rfl (QW.assign (.tmp rfl)) ?_
  refine JL.q rfl rfl rfl (QW.assign (.tmp rfl)) ?_
  refine JL.nil ?_
  refine thenQ.n ?_
  refine J.ret ?_
  obtain rfl : lo = k := by omega
  exact ⟨_, selP [] _, _, RetEv.two rfl (REv.tmp rfl (.refl _)) (REv.tmp rfl (.refl _)), rfl, sel_perm [] _, ⟨by rw [foundStr], rfl⟩⟩
def fndAV (v : V) (s : StT) : AV := .tup [.c (.int .i64 ((v.fnd s).1 : Int)), .c (.int .i64 (v.fnd s).2)]
theorem fndAV_of {v : V} {s : StT} {i : Nat} {e : Int} (h : v.fnd s = (i, e)) : fndAV v s = .tup [.c (.int .i64 (i : Int)), .c (.int .i64 e)] := by rw [fndAV, h]
theorem find_ok {fr : Bool} {v : V} {s : StT} {ys zs : List AV} (hv : Vc fr v ys) (hs : Sc s zs) (hp : partOk v = true) (hsw : s.wf) : Fn Tryz.prog 133 [.agg ys, .agg zs] (fndAV v s) := by
  obtain ⟨k, b, t, ks, is⟩ := v
  subst hv
  obtain ⟨sk, key, ix⟩ := s
  subst hs
  obtain ⟨l1, l2⟩ := partOk_len hp
  have hsi := hsw.i
  simp only [V.items, V.keys] at l1 l2 hsi
  refine AC.of_J Tryz.func133 rfl Tryz.ntmps133 rfl fun w0 A0 => ?_
  refine J.seq ?_
  refine J.region_lit ?_
  refine JL.box_agg (.tmp rfl) rfl fun b2 => ?_
  refine JL.box_agg (.tmp rfl) rfl fun b3 => ?_
  refine JL.q rfl rfl rfl (QW.assign .const) ?_
  refine JL.q rfl rfl rfl (QW.assign .const) ?_
  refine JL.nil ?_
  refine thenQ.n ?_
  refine J.seq ?_
  refine J.block ?_
  refine J.seq ?_
  refine J.seq ?_
  refine J.region_lit ?_
  refine JL.q rfl rfl rfl (QW.field_ptr fo120_0 (.tmp rfl) rfl) ?_
  refine JL.q rfl rfl rfl (QW.load_box1 0 ty4 (.tmp rfl) rfl rfl) ?_
  refine JL.q rfl rfl rfl (QW.move (.tmp rfl)) ?_
  refine JL.g rfl rfl rfl rfl rfl (fun hg => (QW.field_ptr fo29_0 (.tmp rfl) rfl)) ?_
  refine JL.g rfl rfl rfl rfl rfl (fun hg => (QW.load_box1 1 ty3 (.when rfl hg) rfl rfl)) ?_
  refine JL.g rfl rfl rfl rfl rfl (fun hg => (QW.neq (.when rfl hg) .const)) ?_
  refine JL.q rfl rfl rfl (QW.pick_and (.tmp rfl) (.tmp rfl)) ?_
  refine JL.q rfl rfl rfl (QW.assign (.tmp rfl)) ?_
  refine JL.nil ?_
  refine thenQ.n ?_
  refine J.cond (.tmp rfl) (fun c1 => ?_) (fun c1 => ?_)
  · skip
    skip
    refine J.skip ?_
    refine thenQ.n ?_
    refine J.cond (.tmp rfl) (fun c2 => ?_) (fun c2 => absurd c2 (by rw [c1]; decide))
    refine J.seq ?_
    refine J.region_lit ?_
    refine JL.q rfl rfl rfl (QW.assign .const) ?_
    refine JL.q rfl rfl rfl (QW.assign .const) ?_
    refine JL.nil ?_
    refine thenQ.n ?_
    refine J.ret ?_
    refine blkQ.r ?_
    refine thenQ.r ?_
    exact ⟨_, selP [.k, .k] _, _, RetEv.two rfl (REv.tmp rfl (.refl _)) (REv.tmp rfl (.refl _)), rfl, sel_perm [.k, .k] _, ⟨congrArg Res.ret (fndAV_of (i := 0) (e := 81) (by simp at c1; obtain ⟨rfl, h5⟩ := c1; simp [V.fnd, V.kind, h5])).symm, rfl⟩⟩
  skip
  refine J.region_lit ?_
  refine JL.q rfl rfl rfl (QW.field_ptr fo120_0 (.tmp rfl) rfl) ?_
  refine JL.q rfl rfl rfl (QW.load_box1 0 ty4 (.tmp rfl) rfl rfl) ?_
  refine JL.q rfl rfl rfl (QW.not (.tmp rfl)) ?_
  refine JL.q rfl rfl rfl (QW.move (.tmp rfl)) ?_
  refine JL.g rfl rfl rfl rfl rfl (fun hg => (QW.field_ptr fo29_0 (.tmp rfl) rfl)) ?_
  refine JL.g rfl rfl rfl rfl rfl (fun hg => (QW.load_box1 1 ty3 (.when rfl hg) rfl rfl)) ?_
  refine JL.g rfl rfl rfl rfl rfl (fun hg => (QW.neq (.when rfl hg) .const)) ?_
  refine JL.q rfl rfl rfl (QW.pick_and (.tmp rfl) (.tmp rfl)) ?_
  refine JL.q rfl rfl rfl (QW.assign (.tmp rfl)) ?_
  refine JL.nil ?_
  refine thenQ.n ?_
  refine J.cond (.tmp rfl) (fun c2 => ?_) (fun c2 => ?_)
  · skip
    skip
    refine J.seq ?_
    refine J.region_lit ?_
    refine JL.q rfl rfl rfl (QW.assign .const) ?_
    refine JL.q rfl rfl rfl (QW.assign .const) ?_
    refine JL.nil ?_
    refine thenQ.n ?_
    refine J.ret ?_
    refine blkQ.r ?_
    refine thenQ.r ?_
    exact ⟨_, selP [.k, .k] _, _, RetEv.two rfl (REv.tmp rfl (.refl _)) (REv.tmp rfl (.refl _)), rfl, sel_perm [.k, .k] _, ⟨congrArg Res.ret (fndAV_of (i := 0) (e := 81) (by simp at c1 c2; obtain ⟨rfl, h5⟩ := c2; simp [V.fnd, V.kind, h5])).symm, rfl⟩⟩
  skip
  refine J.seq ?_
  refine J.region_lit ?_
  refine JL.q rfl rfl rfl (QW.field_ptr fo120_0 (.tmp rfl) rfl) ?_
  refine JL.q rfl rfl rfl (QW.load_box1 0 ty4 (.tmp rfl) rfl rfl) ?_
  refine JL.q rfl rfl rfl (QW.assign (.tmp rfl)) ?_
  refine JL.nil ?_
  refine thenQ.n ?_
  refine J.cond (.tmp rfl) (fun c3 => ?_) (fun c3 => ?_)
  · skip
    simp at c1 c2
    subst c3
    simp at c1
    subst c1
    have hsrt : Sorted ks := keysOk_sorted (partOk_rec hp rfl).2
    refine J.seq ?_
    refine J.region_lit ?_
    refine JL.q rfl rfl rfl (QW.field_ptr fo29_3 (.tmp rfl) rfl) ?_
    refine JL.q rfl rfl rfl (QW.load_box1 1 ty26 (.tmp rfl) rfl rfl) ?_
    refine JL.q rfl rfl rfl (QW.field_ptr fo120_1 (.tmp rfl) rfl) ?_
    refine JL.q rfl rfl rfl (QW.load_box1 0 ty9 (.tmp rfl) rfl rfl) ?_
    refine JL.q rfl rfl rfl (QW.call gofn149 (.cons (.tmp rfl) (.cons (.tmp rfl) .nil)) (bs_ok (k := low ks key) (by omega) (low_le _ _) (fun i h hi => low_lt h hi) (fun i h hi => low_ge hsrt h hi))) ?_
    refine JL.q rfl rfl rfl (QW.move (.tmp rfl)) ?_
    refine JL.q rfl rfl rfl (QW.extract (.tmp rfl) rfl) ?_
    refine JL.q rfl rfl rfl (QW.extract (.tmp rfl) rfl) ?_
    refine JL.q rfl rfl rfl (QW.assign (.tmp rfl)) ?_
    refine JL.q rfl rfl rfl (QW.assign (.tmp rfl)) ?_
    refine JL.nil ?_
    refine thenQ.n ?_
    refine J.seq ?_
    refine J.seq ?_
    refine J.region_lit ?_
    refine JL.q rfl rfl rfl (QW.move (.tmp rfl)) ?_
    refine JL.q rfl rfl rfl (QW.not (.tmp rfl)) ?_
    refine JL.nil ?_
    refine thenQ.n ?_
    refine J.cond (.tmp rfl) (fun c4 => ?_) (fun c4 => ?_)
    · skip
      skip
      refine J.seq ?_
      refine J.region_lit ?_
      refine JL.q rfl rfl rfl (QW.move (.tmp rfl)) ?_
      refine JL.q rfl rfl rfl (QW.assign (.tmp rfl)) ?_
      refine JL.q rfl rfl rfl (QW.assign .const) ?_
      refine JL.nil ?_
      refine thenQ.n ?_
      refine J.ret ?_
      refine thenQ.r ?_
      refine blkQ.r ?_
      refine thenQ.r ?_
      exact ⟨_, selP [.k, .k] _, _, RetEv.two rfl (REv.tmp rfl (.refl _)) (REv.tmp rfl (.refl _)), rfl, sel_perm [.k, .k] _, ⟨congrArg Res.ret (fndAV_of (i := low ks key) (e := 71) (by simp at c4; simp [V.fnd, V.kind, V.keys, c4])).symm, rfl⟩⟩
    skip
    refine J.skip ?_
    refine thenQ.n ?_
    refine J.seq ?_
    refine J.region_lit ?_
    refine JL.q rfl rfl rfl (QW.move (.tmp rfl)) ?_
    refine JL.q rfl rfl rfl (QW.assign (.tmp rfl)) ?_
    refine JL.q rfl rfl rfl (QW.assign .const) ?_
    refine JL.nil ?_
    refine thenQ.n ?_
    refine J.ret ?_
    refine blkQ.r ?_
    refine thenQ.r ?_
    exact ⟨_, selP [.k, .k] _, _, RetEv.two rfl (REv.tmp rfl (.refl _)) (REv.tmp rfl (.refl _)), rfl, sel_perm [.k, .k] _, ⟨congrArg Res.ret (fndAV_of (i := low ks key) (e := 0) (by simp at c4; simp [V.fnd, V.kind, V.keys, c4])).symm, rfl⟩⟩
  simp at c1 c2
  subst c3
  simp at c2
  subst c2
  refine J.seq ?_
  refine J.region_lit ?_
  refine JL.q rfl rfl rfl (QW.field_ptr fo120_2 (.tmp rfl) rfl) ?_
  refine JL.q rfl rfl rfl (QW.load_box1 0 ty3 (.tmp rfl) rfl rfl) ?_
  refine JL.q rfl rfl rfl (QW.lss (.tmp rfl) .const) ?_
  refine JL.q rfl rfl rfl (QW.move (.tmp rfl)) ?_
  refine JL.g rfl rfl rfl rfl rfl (fun hg => (QW.field_ptr fo120_2 (.tmp rfl) rfl)) ?_
  refine JL.g rfl rfl rfl rfl rfl (fun hg => (QW.load_box1 0 ty3 (.when rfl hg) rfl rfl)) ?_
  refine JL.g rfl rfl rfl rfl rfl (fun hg => (QW.field_ptr fo29_4 (.tmp rfl) rfl)) ?_
  refine JL.g rfl rfl rfl rfl rfl (fun hg => (QW.load_box1 1 ty27 (.when rfl hg) rfl rfl)) ?_
  refine JL.g rfl rfl rfl rfl rfl (fun hg => (by first | exact QW.len_slE sl27 (.when rfl hg) (keysAV_length _) | exact QW.len_slE sl27 (.when rfl hg) (V.css_length _ _) | exact QW.len_slE sl27 (.when rfl hg) (StT.css_length _) | exact QW.len_sl sl27 (.when rfl hg) | exact QW.len_nil sl27 (.when rfl hg))) ?_
  refine JL.g rfl rfl rfl rfl rfl (fun hg => (QW.geq (.when rfl hg) (.when rfl hg))) ?_
  refine JL.q rfl rfl rfl (QW.pick_or (.tmp rfl) (.tmp rfl)) ?_
  refine JL.q rfl rfl rfl (QW.assign (.tmp rfl)) ?_
  refine JL.nil ?_
  refine thenQ.n ?_
  refine J.cond (.tmp rfl) (fun c4 => ?_) (fun c4 => ?_)
  · skip
    skip
    refine J.seq ?_
    refine J.region_lit ?_
    refine JL.q rfl rfl rfl (QW.assign .const) ?_
    refine JL.q rfl rfl rfl (QW.assign .const) ?_
    refine JL.nil ?_
    refine thenQ.n ?_
    refine J.ret ?_
    refine blkQ.r ?_
    refine thenQ.r ?_
    exact ⟨_, selP [.k, .k] _, _, RetEv.two rfl (REv.tmp rfl (.refl _)) (REv.tmp rfl (.refl _)), rfl, sel_perm [.k, .k] _, ⟨congrArg Res.ret (fndAV_of (i := 0) (e := 82) (by unfold V.fnd; rw [if_neg (by simp), if_pos (show (V.mk 4 b t ks is).kind = 4 from rfl), if_pos (by simpa [V.items] using c4)])).symm, rfl⟩⟩
  skip
  refine J.skip ?_
  refine blkQ.n ?_
  refine thenQ.n ?_
  refine J.seq ?_
  refine J.region_lit ?_
  refine JL.q rfl rfl rfl (QW.field_ptr fo120_2 (.tmp rfl) rfl) ?_
  refine JL.q rfl rfl rfl (QW.load_box1 0 ty3 (.tmp rfl) rfl rfl) ?_
  refine JL.q rfl rfl rfl (QW.assign (.tmp rfl)) ?_
  refine JL.q rfl rfl rfl (QW.assign .const) ?_
  refine JL.nil ?_
  refine thenQ.n ?_
  refine J.ret ?_
  simp at c4
  obtain ⟨m, rfl⟩ := Int.eq_ofNat_of_zero_le (a := ix) (by omega)
  exact ⟨_, selP [.k, .k] _, _, RetEv.two rfl (REv.tmp rfl (.refl _)) (REv.tmp rfl (.refl _)), rfl, sel_perm [.k, .k] _, ⟨congrArg Res.ret (fndAV_of (i := m) (e := 0) (by simp [V.fnd, V.kind, V.items]; omega)).symm, rfl⟩⟩
def getAV (v : V) (p : List StT) : AV := .tup [.agg ((v.getv p).1.cs true), .c (.int .i64 (v.getv p).2)]
theorem getAV_of {v u : V} {p : List StT} {e : Int} (h : v.getv p = (u, e)) : getAV v p = .tup [.agg (u.cs true), .c (.int .i64 e)] := by rw [getAV, h]
theorem V.cs_it (fr : Bool) (u : V) : (u.cs fr)[0 + 4]? = some (.sl fr false eV (V.css fr u.items)) := by cases u; rfl
theorem drop_at {α : Type} {l : List α} {j : Nat} (h : j < l.length) : l.drop j = l[j] :: l.drop (j + 1) := List.drop_eq_getElem_cons h
theorem get_ok {fr fr2 c2 : Bool} {v : V} {p : List StT} {ys : List AV} (hv : Vc fr v ys) (hw : v.wf) (hp : p.length * 32 ≤ reach ∧ ∀ s ∈ p, s.wf) : Fn Tryz.prog 132 [.agg ys, .sl fr2 c2 eSt (StT.css p)] (getAV v p) := by
  obtain ⟨hp80, hpw⟩ := hp
  have hpl : p.length ≤ 4398046511104 := by unfold reach at hp80; omega
  subst hv
  refine AC.of_J Tryz.func132 rfl Tryz.ntmps132 rfl fun w0 A0 => ?_
  refine J.seq ?_
  refine J.region_lit ?_
  refine JL.box_agg (.tmp rfl) rfl fun b2 => ?_
  refine JL.alloc z29 rfl rfl fun b4 => ?_
  refine JL.q rfl rfl rfl (QW.assign .const) ?_
  refine JL.nil ?_
  refine thenQ.n ?_
  refine J.seq ?_
  refine J.seq ?_
  refine J.region_lit ?_
  refine JL.q rfl rfl rfl (by first | exact QW.load_box 1 ty29 (.tmp rfl) rfl rfl rfl | exact QW.load_box 1 ty29 (.tmp rfl) rfl (take_at (V.cs_length _ _) rfl) (V.cs_length _ _)) ?_
  refine JL.q rfl rfl rfl (QW.call gofn18 (.cons (.tmp rfl) .nil) (check_ok Vc.self hw)) ?_
  refine JL.q rfl rfl rfl (QW.assign (.tmp rfl)) ?_
  refine JL.nil ?_
  refine thenQ.n ?_
  refine J.seq ?_
  refine J.region_lit ?_
  refine JL.q rfl rfl rfl (QW.move (.tmp rfl)) ?_
  refine JL.q rfl rfl rfl (QW.neq (.tmp rfl) .const) ?_
  refine JL.nil ?_
  refine thenQ.n ?_
  refine J.cond (.tmp rfl) (fun c1 => ?_) (fun c1 => ?_)
  · skip
    simp at c1
    refine J.seq ?_
    refine J.region_lit ?_
    refine JL.q rfl rfl rfl (QW.build (idx := []) pl29 z29 rfl .nil rfl rfl rfl rfl) ?_
    refine JL.q rfl rfl rfl (QW.move (.tmp rfl)) ?_
    first | refine JL.store_boxF 0 ty29 (.tmp rfl) rfl (.tmp rfl) (by first | rfl | assumption) (by first | rfl | exact V.cs_length _ _) (by first | rfl | exact V.cs_length _ _) rfl ?_ | refine JL.store_box 0 ty29 (.tmp rfl) rfl (.tmp rfl) (by first | rfl | assumption) (by first | rfl | exact V.cs_length _ _) rfl rfl rfl ?_
    refine JL.q rfl rfl rfl (QW.assign (.tmp rfl)) ?_
    refine JL.nil ?_
    refine thenQ.n ?_
    refine J.ret ?_
    refine thenQ.r ?_
    exact ⟨_, selP [.k, .k] _, _, RetEv.two rfl (by first | exact REv.cell 0 ty29 rfl rfl rfl rfl (.aggL (.cons (.refl _) (.cons (.refl _) (.cons (.refl _) (.cons (.nil true false _) (.cons (.nil true false _) .nil)))))) | exact REv.cell 0 ty29 rfl rfl (take_at (V.cs_length _ _) rfl) (V.cs_length _ _) (.aggL (.cons (.refl _) (.cons (.refl _) (.cons (.refl _) (.cons (.nil true false _) (.cons (.nil true false _) .nil))))))) (REv.tmp rfl (.refl _)), rfl, sel_perm [.k, .k] _, ⟨congrArg Res.ret (getAV_of (u := .nil) (e := v.err) (by rw [V.getv, if_pos c1])).symm, rfl⟩⟩
  simp at c1
  have hfv := V.fine_of c1
  refine J.skip ?_
  refine thenQ.n ?_
  refine J.seq ?_
  refine J.seq ?_
  refine J.region_lit ?_
  refine JL.q rfl rfl rfl (QW.move (.tmp rfl)) ?_
  refine JL.q rfl rfl rfl (by first | exact QW.len_slE sl121 (.tmp rfl) (keysAV_length _) | exact QW.len_slE sl121 (.tmp rfl) (V.css_length _ _) | exact QW.len_slE sl121 (.tmp rfl) (StT.css_length _) | exact QW.len_sl sl121 (.tmp rfl) | exact QW.len_nil sl121 (.tmp rfl)) ?_
  refine JL.q rfl rfl rfl (QW.move .const) ?_
  refine JL.nil ?_
  refine thenQ.n ?_
  refine J.block ?_
  refine J.loopK (ι := Nat × V) [2, 4, 17, 18] (fun ⟨j, u⟩ => [(19, .c (.int .i64 (j : Int)))]) (fun ⟨j, u⟩ oo => List.set oo 1 (.box b2 (u.cs fr))) (fun ⟨j, u⟩ => j ≤ p.length ∧ u.Fine ∧ u.wf ∧ v.walk p = u.walk (p.drop j)) (fun ⟨j, u⟩ => p.length - j) ⟨0, v⟩ (⟨Nat.zero_le _, hfv, hw, rfl⟩) (Wk.re (.cons rfl (.refl _) (.cons rfl (.refl _) (.cons rfl (.refl _) (.cons rfl (.refl _) (.cons rfl (.refl _) .nil))))) (Reown.refl _) (fun _ h => by first | exact h | simp [h])) ?_
  intro ⟨j, u⟩ ⟨hj, hf, huw, hwk⟩
  refine J.conv (by (try simp only [id_eq, stepsO, List.map_cons, List.map_nil, valO, nthO, curO, mrg, List.reverse_cons, List.reverse_nil, List.nil_append, List.cons_append, List.append_nil, List.getElem?_cons_zero, List.getElem?_cons_succ, Option.map_some, Option.getD_some, List.set_cons_zero, List.set_cons_succ, AV.cellsOf, splice_zero, splice_succ, Nat.zero_add, Nat.reduceAdd]); rfl) ?_
  refine J.seq ?_
  refine J.region_lit ?_
  refine JL.q rfl rfl rfl (QW.lss (.tmp rfl) (.tmp rfl)) ?_
  refine JL.nil ?_
  refine thenQ.n ?_
  refine J.seq ?_
  refine J.cond (.tmp rfl) (fun c2 => ?_) (fun c2 => ?_)
  · skip
    have hlt : j < p.length := by simpa using c2
    refine J.skip ?_
    refine thenQ.n ?_
    refine J.seq ?_
    refine J.block ?_
    refine J.seq ?_
    refine J.region_lit ?_
    refine JL.q rfl rfl rfl (QW.index_sl sl121 ty120 rfl (.tmp rfl) (.tmp rfl) (by first | rfl | omega | (simp; done)) (by exact StT.css_getE hlt)) ?_
    refine JL.q rfl rfl rfl (by first | exact QW.load_ref ty120 (.tmp rfl) rfl rfl | exact QW.load_ref ty120 (.tmp rfl) (take_at0 (rfl) rfl) (rfl)) ?_
    refine JL.alloc z120 rfl rfl fun b8 => ?_
    first | refine JL.store_boxF 0 ty120 (.tmp rfl) rfl (.tmp rfl) (by first | rfl | assumption) (by rfl) (by rfl) rfl ?_ | refine JL.store_box 0 ty120 (.tmp rfl) rfl (.tmp rfl) (by first | rfl | assumption) (by rfl) rfl rfl rfl ?_
    refine JL.nil ?_
    refine thenQ.n ?_
    refine J.seq ?_
    refine J.region_lit ?_
    refine JL.q rfl rfl rfl (by first | exact QW.load_box 2 ty29 (.tmp rfl) rfl rfl rfl | exact QW.load_box 2 ty29 (.tmp rfl) rfl (take_at (V.cs_length _ _) rfl) (V.cs_length _ _)) ?_
    refine JL.q rfl rfl rfl (by first | exact QW.load_box 0 ty120 (.tmp rfl) rfl rfl rfl | exact QW.load_box 0 ty120 (.tmp rfl) rfl (take_at (rfl) rfl) (rfl)) ?_
    refine JL.q rfl rfl rfl (QW.call gofn133 (.cons (.tmp rfl) (.cons (.tmp rfl) .nil)) (find_ok Vc.self Sc.self hf.part (hpw _ (List.getElem_mem hlt)))) ?_
    refine JL.q rfl rfl rfl (QW.move (.tmp rfl)) ?_
    refine JL.q rfl rfl rfl (QW.extract (.tmp rfl) rfl) ?_
    refine JL.q rfl rfl rfl (QW.extract (.tmp rfl) rfl) ?_
    refine JL.q rfl rfl rfl (QW.assign (.tmp rfl)) ?_
    refine JL.q rfl rfl rfl (QW.assign (.tmp rfl)) ?_
    refine JL.nil ?_
    refine thenQ.n ?_
    refine J.seq ?_
    refine J.seq ?_
    refine J.region_lit ?_
    refine JL.q rfl rfl rfl (QW.move (.tmp rfl)) ?_
    refine JL.q rfl rfl rfl (QW.neq (.tmp rfl) .const) ?_
    refine JL.nil ?_
    refine thenQ.n ?_
    refine J.cond (.tmp rfl) (fun c3 => ?_) (fun c3 => ?_)
    · skip
      simp at c3
      refine J.seq ?_
      refine J.region_lit ?_
      refine JL.q rfl rfl rfl (QW.build (idx := []) pl29 z29 rfl .nil rfl rfl rfl rfl) ?_
      refine JL.q rfl rfl rfl (QW.move (.tmp rfl)) ?_
      first | refine JL.store_boxF 1 ty29 (.tmp rfl) rfl (.tmp rfl) (by first | rfl | assumption) (by first | rfl | exact V.cs_length _ _) (by first | rfl | exact V.cs_length _ _) rfl ?_ | refine JL.store_box 1 ty29 (.tmp rfl) rfl (.tmp rfl) (by first | rfl | assumption) (by first | rfl | exact V.cs_length _ _) rfl rfl rfl ?_
      refine JL.q rfl rfl rfl (QW.assign (.tmp rfl)) ?_
      refine JL.nil ?_
      refine thenQ.n ?_
      refine J.ret ?_
      refine thenQ.r ?_
      refine blkQ.r ?_
      refine thenQ.r ?_
      refine thenQ.r ?_
      refine blkQ.r ?_
      refine thenQ.r ?_
      exact ⟨_, selP [.k, .k, .k] _, _, RetEv.two rfl (by first | exact REv.cell 1 ty29 rfl rfl rfl rfl (.aggL (.cons (.refl _) (.cons (.refl _) (.cons (.refl _) (.cons (.nil true false _) (.cons (.nil true false _) .nil)))))) | exact REv.cell 1 ty29 rfl rfl (take_at (V.cs_length _ _) rfl) (V.cs_length _ _) (.aggL (.cons (.refl _) (.cons (.refl _) (.cons (.refl _) (.cons (.nil true false _) (.cons (.nil true false _) .nil))))))) (REv.tmp rfl (.refl _)), rfl, sel_perm [.k, .k, .k] _, ⟨congrArg Res.ret (getAV_of (u := .nil) (e := (u.fnd (p[j]'hlt)).2) (by rw [V.getv, if_neg (by simp [c1]), hwk, drop_at hlt, V.walk, if_pos c3])).symm, rfl⟩⟩
    simp at c3
    have hil := V.fnd_lt hf.part c3
    have hcn : (if (u.fnd (p[j]'hlt)).2 = 0 then ((u.fnd (p[j]'hlt)).1 : Int) else -1) = ((u.fnd (p[j]'hlt)).1 : Int) := if_pos c3
    refine J.skip ?_
    refine thenQ.n ?_
    refine J.region_lit ?_
    refine JL.q rfl rfl rfl (QW.field_ptr fo29_4 (.tmp rfl) rfl) ?_
    refine JL.q rfl rfl rfl (QW.load_box1 2 ty27 (.tmp rfl) rfl (V.cs_it fr u)) ?_
    refine JL.q rfl rfl rfl (QW.move (.tmp rfl)) ?_
    refine JL.q rfl rfl rfl (QW.index_sl sl27 ty29 rfl (.tmp rfl) (.tmp rfl) (by first | rfl | omega | (simp; done)) (by exact (V.css_getE fr hil).trans (by rw [← V.kid_eq hil]))) ?_
    refine JL.q rfl rfl rfl (by first | exact QW.load_ref ty29 (.tmp rfl) rfl rfl | exact QW.load_ref ty29 (.tmp rfl) (take_at0 (V.cs_length _ _) rfl) (V.cs_length _ _)) ?_
    first | refine JL.store_boxF 2 ty29 (.tmp rfl) rfl (.tmp rfl) (by first | rfl | assumption) (by first | rfl | exact V.cs_length _ _) (by first | rfl | exact V.cs_length _ _) rfl ?_ | refine JL.store_box 2 ty29 (.tmp rfl) rfl (.tmp rfl) (by first | rfl | assumption) (by first | rfl | exact V.cs_length _ _) rfl rfl rfl ?_
    refine JL.nil ?_
    refine blkQ.n ?_
    refine thenQ.n ?_
    refine J.region_lit ?_
    refine JL.q rfl rfl rfl (QW.add (.tmp rfl) .const (by first | exact w64n (by first | rfl | omega | (simp; done)) (by omega) | exact w64 (by omega) | rfl)) ?_
    refine JL.q rfl rfl rfl (QW.move (.tmp rfl)) ?_
    refine JL.nil ?_
    refine thenQ.n ?_
    exact ⟨⟨j + 1, u.kid (u.fnd (p[j]'hlt)).1⟩, ⟨hlt, hf.kid (V.kid_mem hil), huw.kid (V.kid_mem hil), by rw [hwk, drop_at hlt, V.walk, if_neg (by simpa using c3)]⟩, by show p.length - (j + 1) < p.length - j; omega, Wk.re (.cons rfl (.refl _) (.cons rfl (.refl _) (.cons rfl (.refl _) (.cons rfl (.refl _) (.cons rfl (.refl _) .nil))))) (Reown.dropN 1 _ rfl) (fun _ h => by first | exact h | simp [h])⟩
  have hge : p.length ≤ j := by simpa using c2
  refine J.exit ?_
  refine thenQ.x ?_
  refine thenQ.x ?_
  refine blkQ.hit ?_
  refine thenQ.n ?_
  refine J.seq ?_
  refine J.region_lit ?_
  refine JL.q rfl rfl rfl (by first | exact QW.load_box 1 ty29 (.tmp rfl) rfl rfl rfl | exact QW.load_box 1 ty29 (.tmp rfl) rfl (take_at (V.cs_length _ _) rfl) (V.cs_length _ _)) ?_
  refine JL.q rfl rfl rfl (QW.call gofn32 (.cons (.tmp rfl) .nil) (clone_rd Vc.self huw)) ?_
  first | refine JL.store_boxF 0 ty29 (.tmp rfl) rfl (.tmp rfl) (by first | rfl | assumption) (by first | rfl | exact V.cs_length _ _) (by first | rfl | exact V.cs_length _ _) rfl ?_ | refine JL.store_box 0 ty29 (.tmp rfl) rfl (.tmp rfl) (by first | rfl | assumption) (by first | rfl | exact V.cs_length _ _) rfl rfl rfl ?_
  refine JL.q rfl rfl rfl (QW.assign .const) ?_
  refine JL.nil ?_
  refine thenQ.n ?_
  refine J.ret ?_
  rw [List.drop_of_length_le hge] at hwk
  exact ⟨_, selP [.k, .k] _, _, RetEv.two rfl (by first | exact REv.cell 0 ty29 rfl rfl rfl rfl (.refl _) | exact REv.cell 0 ty29 rfl rfl (take_at (V.cs_length _ _) rfl) (V.cs_length _ _) (.refl _)) (REv.tmp rfl (.refl _)), rfl, sel_perm [.k, .k] _, ⟨congrArg Res.ret (getAV_of (u := u) (e := 0) (by rw [V.getv, if_neg (by simp [c1]), hwk]; rfl)).symm, rfl⟩⟩
end Go.Proofs.YtjhonjdhanlbkaaGreat.J

