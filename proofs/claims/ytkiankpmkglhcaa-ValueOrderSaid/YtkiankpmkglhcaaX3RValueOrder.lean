/- Texts of this proof, laid together. -/
import Derived.Test.YtkiankpmkglhcaaX2RValueOrder
import Derived.Lib.AppendZerosOnto
import Derived.Laws.Externs
/- Walks: both walks over a value. -/
namespace Go.Proofs.Ytkiankpmkglhcaa.J
open Go Go.RowKit
set_option linter.unusedVariables false
set_option linter.unusedSimpArgs false
set_option maxRecDepth 10000
set_option maxHeartbeats 4000000
theorem V.chks_cons {is : List V} {j : Nat} (h : j < is.length) (lev n : Int) : V.chks (is.drop j) lev n = if (V.chk is[j] (lev + 1) n).1 ≠ 0 then V.chk is[j] (lev + 1) n else V.chks (is.drop (j + 1)) lev (V.chk is[j] (lev + 1) n).2 := by
  rw [List.drop_eq_getElem_cons h, V.chks]
theorem V.depths_cons {is : List V} {j : Nat} (h : j < is.length) : V.depths (is.drop j) = max is[j].depth (V.depths (is.drop (j + 1))) := by
  rw [List.drop_eq_getElem_cons h, V.depths]
def WalkR (v : V) (lev n : Int) : AV → List Own → Prop := fun x o => o = [] ∧ ∃ p d : Int, x = .tup [.c (.int .i64 p), .c (.int .i64 d), .c (.int .i64 (v.chk lev n).1)] ∧ ((v.chk lev n).1 = 0 → p = (v.chk lev n).2 ∧ d = lev + v.depth - 1)
theorem WalkR.mk {v : V} {lev n p d e : Int} (he : e = (v.chk lev n).1) (h : (v.chk lev n).1 = 0 → p = (v.chk lev n).2 ∧ d = lev + v.depth - 1) : RetR (WalkR v lev n) (.ret (.tup [.c (.int .i64 p), .c (.int .i64 d), .c (.int .i64 e)])) [] :=
  ⟨_, rfl, rfl, p, d, by rw [he], h⟩
theorem rwalk_n  : ∀ (n : Nat) {v : V} {ys : List AV} {fr : Bool} {lev p : Int}, Vc fr v ys → v.wf → 1 ≤ lev ∧ lev ≤ 9 → 0 ≤ p ∧ p ≤ 512 → v.sz ≤ n →
    AC Try.prog 74 [] [.agg ys, .c (.int .i64 lev), .c (.int .i64 p)] (RetR (WalkR v lev p)) := by
  intro n
  induction n with
  | zero => intro v ys fr lev p hv hw hl hp h; exact absurd h (by have := V.sz_pos v; omega)
  | succ n ih =>
    intro v ys fr lev p hv hw hl hp hn
    obtain ⟨k, b, t, ks, is⟩ := v
    subst hv
    obtain ⟨-, -, -, -, hi80, -, hwi⟩ := hw.inv
    have hi64 : is.length ≤ 9223372036854775806 := by unfold reach at hi80; omega
    refine AC.of_J Try.func74 rfl Try.ntmps74 rfl fun w0 A0 => ?_
    refine J.seq ?_
    refine J.region_lit ?_
    refine JL.box_agg (.tmp rfl) rfl fun b3 => ?_
    refine JL.q rfl rfl rfl (QW.assign .const) ?_
    refine JL.q rfl rfl rfl (QW.assign .const) ?_
    refine JL.q rfl rfl rfl (QW.assign .const) ?_
    refine JL.nil ?_
    refine thenQ.n ?_
    refine J.seq ?_
    refine J.block ?_
    refine J.seq ?_
    refine J.region_lit ?_
    refine JL.q rfl rfl rfl (QW.move (.tmp rfl)) ?_
    refine JL.q rfl rfl rfl (QW.gtr (.tmp rfl) .const) ?_
    refine JL.q rfl rfl rfl (QW.assign (.tmp rfl)) ?_
    refine JL.nil ?_
    refine thenQ.n ?_
    refine J.cond (.tmp rfl) (fun c1 => ?_) (fun c1 => ?_)
    · skip
      simp at c1
      refine J.seq ?_
      refine J.region_lit ?_
      refine JL.q rfl rfl rfl (QW.move (.tmp rfl)) ?_
      refine JL.q rfl rfl rfl (QW.move (.tmp rfl)) ?_
      refine JL.q rfl rfl rfl (QW.assign (.tmp rfl)) ?_
      refine JL.q rfl rfl rfl (QW.assign (.tmp rfl)) ?_
      refine JL.q rfl rfl rfl (QW.assign .const) ?_
      refine JL.nil ?_
      refine thenQ.n ?_
      refine J.ret ?_
      refine blkQ.r ?_
      refine thenQ.r ?_
      exact ⟨_, selP [.k] _, _, RetEv.three rfl (REv.tmp rfl (.refl _)) (REv.tmp rfl (.refl _)) (REv.tmp rfl (.refl _)), rfl, sel_perm [.k] _, WalkR.mk (by simp [V.chk, c1]) (fun h => by simp [V.chk, c1] at h)⟩
    · skip
      simp at c1
      refine J.seq ?_
      refine J.region_lit ?_
      refine JL.q rfl rfl rfl (QW.move (.tmp rfl)) ?_
      refine JL.q rfl rfl rfl (QW.geq (.tmp rfl) .const) ?_
      refine JL.q rfl rfl rfl (QW.assign (.tmp rfl)) ?_
      refine JL.nil ?_
      refine thenQ.n ?_
      refine J.cond (.tmp rfl) (fun c2 => ?_) (fun c2 => ?_)
      · skip
        simp at c2
        refine J.seq ?_
        refine J.region_lit ?_
        refine JL.q rfl rfl rfl (QW.move (.tmp rfl)) ?_
        refine JL.q rfl rfl rfl (QW.move (.tmp rfl)) ?_
        refine JL.q rfl rfl rfl (QW.assign (.tmp rfl)) ?_
        refine JL.q rfl rfl rfl (QW.assign (.tmp rfl)) ?_
        refine JL.q rfl rfl rfl (QW.assign .const) ?_
        refine JL.nil ?_
        refine thenQ.n ?_
        refine J.ret ?_
        refine blkQ.r ?_
        refine thenQ.r ?_
        exact ⟨_, selP [.k] _, _, RetEv.three rfl (REv.tmp rfl (.refl _)) (REv.tmp rfl (.refl _)) (REv.tmp rfl (.refl _)), rfl, sel_perm [.k] _, WalkR.mk (by simp [V.chk, show ¬ 8 < lev by omega, c2]) (fun h => by simp [V.chk, show ¬ 8 < lev by omega, c2] at h)⟩
      · skip
        simp at c2
        refine J.seq ?_
        refine J.region_lit ?_
        refine JL.q rfl rfl rfl (by first | exact QW.load_box 0 ty26 (.tmp rfl) rfl rfl rfl | exact QW.load_box 0 ty26 (.tmp rfl) rfl (take_at (V.cs_length _ _) rfl) (V.cs_length _ _)) ?_
        refine JL.q rfl rfl rfl (QW.call gofn106 (.cons (.tmp rfl) .nil) (rpart_ok Vc.mk hw)) ?_
        refine JL.q rfl rfl rfl (QW.not (.tmp rfl)) ?_
        refine JL.q rfl rfl rfl (QW.assign (.tmp rfl)) ?_
        refine JL.nil ?_
        refine thenQ.n ?_
        refine J.cond (.tmp rfl) (fun c3 => ?_) (fun c3 => ?_)
        · skip
          simp at c3
          refine J.seq ?_
          refine J.region_lit ?_
          refine JL.q rfl rfl rfl (QW.move (.tmp rfl)) ?_
          refine JL.q rfl rfl rfl (QW.move (.tmp rfl)) ?_
          refine JL.q rfl rfl rfl (QW.assign (.tmp rfl)) ?_
          refine JL.q rfl rfl rfl (QW.assign (.tmp rfl)) ?_
          refine JL.q rfl rfl rfl (QW.assign .const) ?_
          refine JL.nil ?_
          refine thenQ.n ?_
          refine J.ret ?_
          refine blkQ.r ?_
          refine thenQ.r ?_
          exact ⟨_, selP [.k] _, _, RetEv.three rfl (REv.tmp rfl (.refl _)) (REv.tmp rfl (.refl _)) (REv.tmp rfl (.refl _)), rfl, sel_perm [.k] _, WalkR.mk (by simp [V.chk, show ¬ 8 < lev by omega, show ¬ 512 ≤ p by omega, c3]) (fun h => by simp [V.chk, show ¬ 8 < lev by omega, show ¬ 512 ≤ p by omega, c3] at h)⟩
        · skip
          simp at c3
          refine J.skip ?_
          refine blkQ.n ?_
          refine thenQ.n ?_
          refine J.seq ?_
          refine J.region_lit ?_
          refine JL.q rfl rfl rfl (QW.move (.tmp rfl)) ?_
          refine JL.q rfl rfl rfl (QW.add (.tmp rfl) .const (by first | exact w64n (by first | rfl | omega | (simp; done)) (by omega) | exact w64 (by omega) | rfl)) ?_
          refine JL.q rfl rfl rfl (QW.assign (.tmp rfl)) ?_
          refine JL.nil ?_
          refine thenQ.n ?_
          refine J.seq ?_
          refine J.region_lit ?_
          refine JL.q rfl rfl rfl (QW.move (.tmp rfl)) ?_
          refine JL.q rfl rfl rfl (QW.assign (.tmp rfl)) ?_
          refine JL.nil ?_
          refine thenQ.n ?_
          refine J.seq ?_
          refine J.seq ?_
          refine J.region_lit ?_
          refine JL.q rfl rfl rfl (QW.assign .const) ?_
          refine JL.nil ?_
          refine thenQ.n ?_
          refine J.block ?_
          have hck : V.chk (.mk k b t ks is) lev p = V.chks is lev (p + 1) := by unfold V.chk; rw [if_neg (by omega), if_neg (by omega), if_neg (by simp [c3])]
          refine J.loopK (ι := Nat × Int × Int) [1, 3] (fun ⟨j, q, e⟩ => [(10, .c (.int .i64 (j : Int))), (2, .c (.int .i64 q)), (9, .c (.int .i64 e))]) (fun _ oo => oo) (fun ⟨j, q, e⟩ => j ≤ is.length ∧ V.chks is lev (p + 1) = V.chks (is.drop j) lev q ∧ max e (lev + V.depths (is.drop j)) = lev + V.depths is ∧ (0 ≤ q ∧ q ≤ 512 ∧ lev ≤ e)) (fun ⟨j, q, e⟩ => is.length - j) ⟨0, p + 1, lev⟩ (⟨Nat.zero_le _, rfl, by have := V.depths_nonneg is; rw [List.drop_zero]; omega, by omega⟩) (Wk.re (.cons rfl (.refl _) (.cons rfl (.refl _) (.cons rfl (.refl _) (.cons rfl (.refl _) (.cons rfl (.refl _) .nil))))) (Reown.refl _) (fun _ h => by first | exact h | simp [h])) ?_
          intro ⟨j, q, e⟩ ⟨hj, hcs, hde, hq⟩
          refine J.conv (by (try simp only [stepsO, List.map_cons, List.map_nil, valO, nthO, curO, mrg, List.reverse_cons, List.reverse_nil, List.nil_append, List.cons_append, List.append_nil, List.getElem?_cons_zero, List.getElem?_cons_succ, Option.map_some, Option.getD_some, List.set_cons_zero, List.set_cons_succ, AV.cellsOf, splice_zero, splice_succ, Nat.zero_add, Nat.reduceAdd]); rfl) ?_
          refine J.seq ?_
          refine J.seq ?_
          refine J.region_lit ?_
          refine JL.q rfl rfl rfl (QW.move (.tmp rfl)) ?_
          refine JL.q rfl rfl rfl (QW.field_ptr fo26_4 (.tmp rfl) rfl) ?_
          refine JL.q rfl rfl rfl (QW.load_box1 0 ty24 (.tmp rfl) rfl rfl) ?_
          refine JL.q rfl rfl rfl (by first | exact QW.len_sl sl24 (.tmp rfl) | exact QW.len_nil sl24 (.tmp rfl)) ?_
          refine JL.q rfl rfl rfl (QW.lss (.tmp rfl) (.tmp rfl)) ?_
          refine JL.nil ?_
          refine thenQ.n ?_
          refine J.cond (.tmp rfl) (fun c4 => ?_) (fun c4 => ?_)
          · skip
            have hlt : j < is.length := by simpa [V.css_length] using c4
            refine J.skip ?_
            refine thenQ.n ?_
            refine J.seq ?_
            refine J.block ?_
            refine J.seq ?_
            refine J.region_lit ?_
            refine JL.q rfl rfl rfl (QW.field_ptr fo26_4 (.tmp rfl) rfl) ?_
            refine JL.q rfl rfl rfl (QW.load_box1 0 ty24 (.tmp rfl) rfl rfl) ?_
            refine JL.q rfl rfl rfl (QW.move (.tmp rfl)) ?_
            refine JL.q rfl rfl rfl (QW.index_sl sl24 ty26 rfl (.tmp rfl) (.tmp rfl) (by first | rfl | omega | (simp; done)) (by exact V.css_getE _ hlt)) ?_
            refine JL.q rfl rfl rfl (by first | exact QW.load_ref ty26 (.tmp rfl) rfl rfl | exact QW.load_ref ty26 (.tmp rfl) (take_at0 (V.cs_length _ _) rfl) (V.cs_length _ _)) ?_
            refine JL.q rfl rfl rfl (QW.move (.tmp rfl)) ?_
            refine JL.q rfl rfl rfl (QW.add (.tmp rfl) .const (by first | exact w64n (by first | rfl | omega | (simp; done)) (by omega) | exact w64 (by omega) | rfl)) ?_
            refine JL.q rfl rfl rfl (QW.move (.tmp rfl)) ?_
            refine JL.callRF [] gofn74 rfl Lent.nil (fun _ => (.cons (.tmp rfl) (.cons (.tmp rfl) (.cons (.tmp rfl) .nil)))) (ih (by first | exact Vc.self | exact Vc.mk) (hwi _ (List.getElem_mem _)) (by omega) (by omega) (V.sz_get hn hlt)) (.inl rfl) fun x49 o49 h49 => ?_
            obtain ⟨rfl, p49, d49, rfl, hp49⟩ := h49
            have hlt : j < is.length := by simpa [V.css_length] using c4
            refine JL.q rfl rfl rfl (QW.move (.tmp rfl)) ?_
            refine JL.q rfl rfl rfl (QW.extract (.tmp rfl) rfl) ?_
            refine JL.q rfl rfl rfl (QW.extract (.tmp rfl) rfl) ?_
            refine JL.q rfl rfl rfl (QW.extract (.tmp rfl) rfl) ?_
            refine JL.q rfl rfl rfl (QW.assign (.tmp rfl)) ?_
            refine JL.q rfl rfl rfl (QW.assign (.tmp rfl)) ?_
            refine JL.q rfl rfl rfl (QW.assign (.tmp rfl)) ?_
            refine JL.nil ?_
            refine thenQ.n ?_
            refine J.seq ?_
            refine J.seq ?_
            refine J.region_lit ?_
            refine JL.q rfl rfl rfl (QW.move (.tmp rfl)) ?_
            refine JL.q rfl rfl rfl (QW.neq (.tmp rfl) .const) ?_
            refine JL.nil ?_
            refine thenQ.n ?_
            refine J.cond (.tmp rfl) (fun c5 => ?_) (fun c5 => ?_)
            · skip
              simp at c5
              refine J.seq ?_
              refine J.region_lit ?_
              refine JL.q rfl rfl rfl (QW.move (.tmp rfl)) ?_
              refine JL.q rfl rfl rfl (QW.move (.tmp rfl)) ?_
              refine JL.q rfl rfl rfl (QW.move (.tmp rfl)) ?_
              refine JL.q rfl rfl rfl (QW.assign (.tmp rfl)) ?_
              refine JL.q rfl rfl rfl (QW.assign (.tmp rfl)) ?_
              refine JL.q rfl rfl rfl (QW.assign (.tmp rfl)) ?_
              refine JL.nil ?_
              refine thenQ.n ?_
              refine J.ret ?_
              refine thenQ.r ?_
              refine blkQ.r ?_
              refine thenQ.r ?_
              refine thenQ.r ?_
              refine blkQ.r ?_
              refine thenQ.r ?_
              rw [V.chks_cons hlt, if_pos (by simpa using c5)] at hcs
              have he := hck.trans hcs
              exact ⟨_, selP [.k] _, _, RetEv.three rfl (REv.tmp rfl (.refl _)) (REv.tmp rfl (.refl _)) (REv.tmp rfl (.refl _)), rfl, sel_perm [.k] _, WalkR.mk (by rw [he]) (fun h => absurd (by rw [he] at h; exact h) c5)⟩
            · skip
              simp at c5
              refine J.skip ?_
              refine thenQ.n ?_
              refine J.region_lit ?_
              refine JL.q rfl rfl rfl (QW.move (.tmp rfl)) ?_
              refine JL.q rfl rfl rfl (QW.move (.tmp rfl)) ?_
              refine JL.q rfl rfl rfl (QW.move (.tmp rfl)) ?_
              refine JL.q rfl rfl rfl (QW.max2 (.tmp rfl) (.tmp rfl)) ?_
              refine JL.q rfl rfl rfl (QW.assign (.tmp rfl)) ?_
              refine JL.q rfl rfl rfl (QW.assign (.tmp rfl)) ?_
              refine JL.nil ?_
              refine blkQ.n ?_
              refine thenQ.n ?_
              refine J.region_lit ?_
              refine JL.q rfl rfl rfl (QW.move (.tmp rfl)) ?_
              refine JL.q rfl rfl rfl (QW.add (.tmp rfl) .const (by first | exact w64n (by first | rfl | omega | (simp; done)) (by omega) | exact w64 (by omega) | rfl)) ?_
              refine JL.q rfl rfl rfl (QW.assign (.tmp rfl)) ?_
              refine JL.nil ?_
              refine thenQ.n ?_
              have hb := V.chk_bounds is[j] (lev + 1) q
              obtain ⟨hq1, hq2⟩ := hp49 c5
              rw [V.chks_cons hlt, if_neg (by simp [c5])] at hcs
              rw [V.depths_cons hlt] at hde
              exact ⟨⟨j + 1, p49, max e d49⟩, ⟨hlt, by rw [hcs, hq1], by omega, by omega⟩, by show is.length - (j + 1) < is.length - j; omega, Wk.re (.cons rfl (.refl _) (.cons rfl (.refl _) (.cons rfl (Le.intE (by simp only [Int.max_def]; split <;> split <;> omega)) (.cons rfl (.refl _) (.cons rfl (.refl _) .nil))))) (Reown.refl _) (fun _ h => by first | exact h | simp [h])⟩
          · skip
            have hge : is.length ≤ j := by simpa [V.css_length] using c4
            refine J.exit ?_
            refine thenQ.x ?_
            refine thenQ.x ?_
            refine blkQ.hit ?_
            refine thenQ.n ?_
            refine J.seq ?_
            refine J.region_lit ?_
            refine JL.q rfl rfl rfl (QW.move (.tmp rfl)) ?_
            refine JL.q rfl rfl rfl (QW.move (.tmp rfl)) ?_
            refine JL.q rfl rfl rfl (QW.assign (.tmp rfl)) ?_
            refine JL.q rfl rfl rfl (QW.assign (.tmp rfl)) ?_
            refine JL.q rfl rfl rfl (QW.assign .const) ?_
            refine JL.nil ?_
            refine thenQ.n ?_
            refine J.ret ?_
            obtain rfl : j = is.length := by omega
            simp only [List.drop_length, V.chks, V.depths] at hcs hde
            have he := hck.trans hcs
            exact ⟨_, selP [.k] _, _, RetEv.three rfl (REv.tmp rfl (.refl _)) (REv.tmp rfl (.refl _)) (REv.tmp rfl (.refl _)), rfl, sel_perm [.k] _, WalkR.mk (by rw [he]) (fun h => ⟨by rw [he], by unfold V.depth; omega⟩)⟩
theorem rwalk_ok {v : V} {ys : List AV} {fr : Bool} {lev p : Int} (hv : Vc fr v ys) (hw : v.wf) (hl : 1 ≤ lev ∧ lev ≤ 9) (hp : 0 ≤ p ∧ p ≤ 512) :
    AC Try.prog 74 [] [.agg ys, .c (.int .i64 lev), .c (.int .i64 p)] (RetR (WalkR v lev p)) := rwalk_n _ hv hw hl hp (Nat.le_refl _)
theorem PanR.of {e e' : Int} {Rx : AV → List Own → Prop} (h : e' = e) (hn : ¬ e = 0) : PanR (e' = 0) (.iface 28 (.int .i64 e')) Rx (.pan (.iface 28 (.int .i64 e))) [] := by
  subst h; exact .pan hn
def wk (b : Nat) (p d : Int) : Own := .box b [.c (.int .i64 p), .c (.int .i64 d)]
def errV (e : Int) : Value := .iface 28 (.int .i64 e)
def WR (v : V) (lev p d : Int) (bw : Nat) : Res → List Own → Prop := PanR ((v.chk lev p).1 = 0) (errV (v.chk lev p).1) fun x o => x = .tup [] ∧ o = [wk bw (v.chk lev p).2 (max d (lev + v.depth - 1))]
theorem walk_n  : ∀ (n : Nat) {v : V} {ys : List AV} {fr : Bool} {lev p d : Int} {bw : Nat}, Vc fr v ys → v.wf → 1 ≤ lev ∧ lev ≤ 9 → 0 ≤ p ∧ p ≤ 512 → v.sz ≤ n →
    AC Try.prog 73 [wk bw p d] [.c (.pointer (some ⟨bw, 0, none⟩)), .agg ys, .c (.int .i64 lev)] (WR v lev p d bw) := by
  intro n
  induction n with
  | zero => intro v ys fr lev p d bw hv hw hl hp h; exact absurd h (by have := V.sz_pos v; omega)
  | succ n ih =>
    intro v ys fr lev p d bw hv hw hl hp hn
    obtain ⟨k, b, t, ks, is⟩ := v
    subst hv
    obtain ⟨-, -, -, -, hi80, -, hwi⟩ := hw.inv
    have hi64 : is.length ≤ 9223372036854775806 := by unfold reach at hi80; omega
    refine AC.of_J Try.func73 rfl Try.ntmps73 rfl fun w0 A0 => ?_
    refine J.seq ?_
    refine J.region_lit ?_
    refine JL.box_agg (.tmp rfl) rfl fun b4 => ?_
    refine JL.nil ?_
    refine thenQ.n ?_
    refine J.seq ?_
    refine J.block ?_
    refine J.seq ?_
    refine J.region_lit ?_
    refine JL.q rfl rfl rfl (QW.move (.tmp rfl)) ?_
    refine JL.q rfl rfl rfl (QW.gtr (.tmp rfl) .const) ?_
    refine JL.q rfl rfl rfl (QW.assign (.tmp rfl)) ?_
    refine JL.nil ?_
    refine thenQ.n ?_
    refine J.cond (.tmp rfl) (fun c1 => ?_) (fun c1 => ?_)
    · skip
      simp at c1
      refine J.region_lit ?_
      refine JL.q rfl rfl rfl (QW.mkIface ⟨_, Try.underlying28, by intro ms h; cases h⟩ .const) ?_
      refine JL.panic (.tmp rfl) ?_
      refine blkQ.p ?_
      refine thenQ.p ?_
      exact ⟨_, selP [.k, .k] _, _, rfl, rfl, sel_perm [.k, .k] _, PanR.of (by simp [V.chk, c1]) (by decide)⟩
    · skip
      simp at c1
      refine J.seq ?_
      refine J.region_lit ?_
      refine JL.q rfl rfl rfl (QW.move (.tmp rfl)) ?_
      refine JL.q rfl rfl rfl (QW.nil_ptr (.tmp rfl)) ?_
      refine JL.q rfl rfl rfl (QW.field_ptr fo127_0 (.tmp rfl) rfl) ?_
      refine JL.q rfl rfl rfl (QW.load_box1 1 ty3 (.tmp rfl) rfl rfl) ?_
      refine JL.q rfl rfl rfl (QW.eql (.tmp rfl) .const) ?_
      refine JL.q rfl rfl rfl (QW.assign (.tmp rfl)) ?_
      refine JL.nil ?_
      refine thenQ.n ?_
      refine J.cond (.tmp rfl) (fun c2 => ?_) (fun c2 => ?_)
      · skip
        simp at c2
        refine J.region_lit ?_
        refine JL.q rfl rfl rfl (QW.mkIface ⟨_, Try.underlying28, by intro ms h; cases h⟩ .const) ?_
        refine JL.panic (.tmp rfl) ?_
        refine blkQ.p ?_
        refine thenQ.p ?_
        exact ⟨_, selP [.k, .k] _, _, rfl, rfl, sel_perm [.k, .k] _, PanR.of (by simp [V.chk, show ¬ 8 < lev by omega, show 512 ≤ p by omega]) (by decide)⟩
      · skip
        simp at c2
        refine J.seq ?_
        refine J.region_lit ?_
        refine JL.q rfl rfl rfl (by first | exact QW.load_box 0 ty26 (.tmp rfl) rfl rfl rfl | exact QW.load_box 0 ty26 (.tmp rfl) rfl (take_at (V.cs_length _ _) rfl) (V.cs_length _ _)) ?_
        refine JL.q rfl rfl rfl (QW.call gofn105 (.cons (.tmp rfl) .nil) (part_ok Vc.mk hw)) ?_
        refine JL.q rfl rfl rfl (QW.not (.tmp rfl)) ?_
        refine JL.q rfl rfl rfl (QW.assign (.tmp rfl)) ?_
        refine JL.nil ?_
        refine thenQ.n ?_
        refine J.cond (.tmp rfl) (fun c3 => ?_) (fun c3 => ?_)
        · skip
          simp at c3
          refine J.region_lit ?_
          refine JL.q rfl rfl rfl (QW.mkIface ⟨_, Try.underlying28, by intro ms h; cases h⟩ .const) ?_
          refine JL.panic (.tmp rfl) ?_
          refine blkQ.p ?_
          refine thenQ.p ?_
          exact ⟨_, selP [.k, .k] _, _, rfl, rfl, sel_perm [.k, .k] _, PanR.of (by simp [V.chk, show ¬ 8 < lev by omega, show ¬ 512 ≤ p by omega, c3]) (by decide)⟩
        · skip
          simp at c3
          refine J.skip ?_
          refine blkQ.n ?_
          refine thenQ.n ?_
          refine J.seq ?_
          refine J.region_lit ?_
          refine JL.q rfl rfl rfl (QW.move (.tmp rfl)) ?_
          refine JL.q rfl rfl rfl (QW.nil_ptr (.tmp rfl)) ?_
          refine JL.q rfl rfl rfl (QW.field_ptr fo127_0 (.tmp rfl) rfl) ?_
          refine JL.q rfl rfl rfl (QW.load_box1 1 ty3 (.tmp rfl) rfl rfl) ?_
          refine JL.q rfl rfl rfl (QW.add (.tmp rfl) .const (by first | exact w64n (by first | rfl | omega | (simp; done)) (by omega) | exact w64 (by omega) | rfl)) ?_
          refine JL.q rfl rfl rfl (QW.nil_ptr (.tmp rfl)) ?_
          refine JL.q rfl rfl rfl (QW.field_ptr fo127_0 (.tmp rfl) rfl) ?_
          refine JL.store_box 1 ty3 (.tmp rfl) rfl (.tmp rfl) (by first | rfl | assumption) rfl rfl rfl rfl ?_
          refine JL.nil ?_
          refine thenQ.n ?_
          refine J.seq ?_
          refine J.region_lit ?_
          refine JL.q rfl rfl rfl (QW.move (.tmp rfl)) ?_
          refine JL.q rfl rfl rfl (QW.move (.tmp rfl)) ?_
          refine JL.q rfl rfl rfl (QW.nil_ptr (.tmp rfl)) ?_
          refine JL.q rfl rfl rfl (QW.field_ptr fo127_1 (.tmp rfl) rfl) ?_
          refine JL.q rfl rfl rfl (QW.load_box1 1 ty3 (.tmp rfl) rfl rfl) ?_
          refine JL.q rfl rfl rfl (QW.move (.tmp rfl)) ?_
          refine JL.q rfl rfl rfl (QW.max2 (.tmp rfl) (.tmp rfl)) ?_
          refine JL.q rfl rfl rfl (QW.nil_ptr (.tmp rfl)) ?_
          refine JL.q rfl rfl rfl (QW.field_ptr fo127_1 (.tmp rfl) rfl) ?_
          refine JL.store_box 1 ty3 (.tmp rfl) rfl (.tmp rfl) (by first | rfl | assumption) rfl rfl rfl rfl ?_
          refine JL.nil ?_
          refine thenQ.n ?_
          refine J.seq ?_
          refine J.region_lit ?_
          refine JL.q rfl rfl rfl (QW.field_ptr fo26_4 (.tmp rfl) rfl) ?_
          refine JL.q rfl rfl rfl (QW.load_box1 0 ty24 (.tmp rfl) rfl rfl) ?_
          refine JL.q rfl rfl rfl (by first | exact QW.len_sl sl24 (.tmp rfl) | exact QW.len_nil sl24 (.tmp rfl)) ?_
          refine JL.q rfl rfl rfl (QW.move .const) ?_
          refine JL.nil ?_
          refine thenQ.n ?_
          refine J.block ?_
          have hck : V.chk (.mk k b t ks is) lev p = V.chks is lev (p + 1) := by unfold V.chk; rw [if_neg (by omega), if_neg (by omega), if_neg (by simp [c3])]
          refine J.loopK (ι := Nat × Int × Int) [0, 2, 41, 42] (fun ⟨j, q, e⟩ => [(43, .c (.int .i64 (j : Int)))]) (fun ⟨j, q, e⟩ oo => List.set oo 1 (wk bw q e)) (fun ⟨j, q, e⟩ => j ≤ is.length ∧ V.chks is lev (p + 1) = V.chks (is.drop j) lev q ∧ max e (lev + V.depths (is.drop j)) = max d (lev + V.depths is) ∧ (0 ≤ q ∧ q ≤ 512 ∧ lev ≤ e)) (fun ⟨j, q, e⟩ => is.length - j) ⟨0, p + 1, if lev > d then lev else d⟩ (⟨Nat.zero_le _, rfl, by have := V.depths_nonneg is; rw [List.drop_zero]; split <;> omega, by split <;> omega⟩) (Wk.re (.cons rfl (.refl _) (.cons rfl (.refl _) (.cons rfl (.refl _) (.cons rfl (.refl _) (.cons rfl (.refl _) .nil))))) (Reown.refl _) (fun _ h => by first | exact h | simp [h])) ?_
          intro ⟨j, q, e⟩ ⟨hj, hcs, hde, hq⟩
          refine J.conv (by (try simp only [stepsO, List.map_cons, List.map_nil, valO, nthO, curO, mrg, List.reverse_cons, List.reverse_nil, List.nil_append, List.cons_append, List.append_nil, List.getElem?_cons_zero, List.getElem?_cons_succ, Option.map_some, Option.getD_some, List.set_cons_zero, List.set_cons_succ, AV.cellsOf, splice_zero, splice_succ, Nat.zero_add, Nat.reduceAdd]); rfl) ?_
          refine J.seq ?_
          refine J.region_lit ?_
          refine JL.q rfl rfl rfl (QW.lss (.tmp rfl) (.tmp rfl)) ?_
          refine JL.nil ?_
          refine thenQ.n ?_
          refine J.seq ?_
          refine J.cond (.tmp rfl) (fun c4 => ?_) (fun c4 => ?_)
          · skip
            have hlt : j < is.length := by simpa [V.css_length] using c4
            refine J.skip ?_
            refine thenQ.n ?_
            refine J.seq ?_
            refine J.block ?_
            refine J.seq ?_
            refine J.region_lit ?_
            refine JL.q rfl rfl rfl (QW.index_sl sl24 ty26 rfl (.tmp rfl) (.tmp rfl) (by first | rfl | omega | (simp; done)) (by exact V.css_getE _ hlt)) ?_
            refine JL.q rfl rfl rfl (by first | exact QW.load_ref ty26 (.tmp rfl) rfl rfl | exact QW.load_ref ty26 (.tmp rfl) (take_at0 (V.cs_length _ _) rfl) (V.cs_length _ _)) ?_
            refine JL.alloc z26 rfl rfl fun b7 => ?_
            first | refine JL.store_boxF 0 ty26 (.tmp rfl) rfl (.tmp rfl) (by first | rfl | assumption) (rfl) (rfl) rfl ?_ | refine JL.store_boxF 0 ty26 (.tmp rfl) rfl (.tmp rfl) (by first | rfl | assumption) (rfl) (V.cs_length _ _) rfl ?_ | refine JL.store_boxF 0 ty26 (.tmp rfl) rfl (.tmp rfl) (by first | rfl | assumption) (V.cs_length _ _) (rfl) rfl ?_ | refine JL.store_boxF 0 ty26 (.tmp rfl) rfl (.tmp rfl) (by first | rfl | assumption) (V.cs_length _ _) (V.cs_length _ _) rfl ?_ | refine JL.store_box 0 ty26 (.tmp rfl) rfl (.tmp rfl) (by first | rfl | assumption) rfl rfl rfl rfl ?_ | refine JL.store_box 0 ty26 (.tmp rfl) rfl (.tmp rfl) (by first | rfl | assumption) (V.cs_length _ _) rfl rfl rfl ?_
            refine JL.nil ?_
            refine thenQ.n ?_
            refine J.region_lit ?_
            refine JL.q rfl rfl rfl (QW.move (.tmp rfl)) ?_
            refine JL.q rfl rfl rfl (by first | exact QW.load_box 0 ty26 (.tmp rfl) rfl rfl rfl | exact QW.load_box 0 ty26 (.tmp rfl) rfl (take_at (V.cs_length _ _) rfl) (V.cs_length _ _)) ?_
            refine JL.q rfl rfl rfl (QW.move (.tmp rfl)) ?_
            refine JL.q rfl rfl rfl (QW.add (.tmp rfl) .const (by first | exact w64n (by first | rfl | omega | (simp; done)) (by omega) | exact w64 (by omega) | rfl)) ?_
            refine JL.callPF [.k, .k, .p] gofn73 rfl Lent.nil (fun _ => (.cons (.tmp rfl) (.cons (.tmp rfl) (.cons (.tmp rfl) .nil)))) (ih (by first | exact Vc.self | exact Vc.mk) (hwi _ (List.getElem_mem _)) (by omega) (by omega) (V.sz_get hn hlt)) (.inl rfl) (fun k51 x51 o51 h51 => ?_) (fun k51 => ?_)
            rotate_left
            · skip
              refine blkQ.p ?_
              refine thenQ.p ?_
              refine thenQ.p ?_
              refine blkQ.p ?_
              rw [V.chks_cons hlt, if_pos k51] at hcs
              have he := hck.trans hcs
              exact ⟨_, selP [.k, .k] _, _, rfl, rfl, sel_perm [.k, .k] _, PanR.of (by rw [he]) k51⟩
            obtain ⟨rfl, rfl⟩ := h51
            refine JL.nil ?_
            refine blkQ.n ?_
            refine thenQ.n ?_
            refine J.region_lit ?_
            refine JL.q rfl rfl rfl (QW.add (.tmp rfl) .const (by first | exact w64n (by first | rfl | omega | (simp; done)) (by omega) | exact w64 (by omega) | rfl)) ?_
            refine JL.q rfl rfl rfl (QW.move (.tmp rfl)) ?_
            refine JL.nil ?_
            refine thenQ.n ?_
            have hb := V.chk_bounds is[j] (lev + 1) q
            rw [V.chks_cons hlt, if_neg (by simp [k51])] at hcs
            rw [V.depths_cons hlt] at hde
            exact ⟨⟨j + 1, (V.chk is[j] (lev + 1) q).2, max e (lev + 1 + is[j].depth - 1)⟩, ⟨hlt, hcs, by omega, by omega⟩, by show is.length - (j + 1) < is.length - j; omega, Wk.re (.cons rfl (.refl _) (.cons rfl (.refl _) (.cons rfl (.refl _) (.cons rfl (.refl _) (.cons rfl (.refl _) .nil))))) (Reown.dropN 1 _ rfl) (fun _ h => by first | exact h | simp [h])⟩
          · skip
            have hge : is.length ≤ j := by simpa [V.css_length] using c4
            refine J.exit ?_
            refine thenQ.x ?_
            refine thenQ.x ?_
            refine blkQ.hit ?_
            obtain rfl : j = is.length := by omega
            simp only [List.drop_length, V.chks, V.depths] at hcs hde
            have he := hck.trans hcs
            exact ⟨_, selP [.k, .p] _, _, RetEv.none rfl , rfl, sel_perm [.k, .p] _, PanR.ret (by rw [he]) ⟨rfl, by rw [he]; unfold V.depth; rw [show max d (lev + (1 + V.depths is) - 1) = e by omega]; rfl⟩⟩
end Go.Proofs.Ytkiankpmkglhcaa.J

/- Walks: sizes and checks of values. -/
namespace Go.Proofs.Ytkiankpmkglhcaa.J
open Go Go.RowKit
set_option linter.unusedVariables false
set_option linter.unusedSimpArgs false
set_option maxRecDepth 10000
set_option maxHeartbeats 4000000
theorem zeroErrno (w : World) : (zeroValue 28).run Try.prog w = .ok (.int .i64 0) w := by kernel_rfl
def ibox (b : Nat) (n : Int) : Own := .box b [.c (.int .i64 n)]
theorem size1_ret (a b c : Nat) (x y z : Int) : DC Try.prog 72 [ibox c z, ibox b y, ibox a x] [.c (.pointer (some ⟨a, 0, none⟩)), .c (.pointer (some ⟨b, 0, none⟩)), .c (.pointer (some ⟨c, 0, none⟩))] .returning fun r u' o => r = .ret (.tup []) ∧ u' = .returning ∧ o = [ibox c z, ibox b y, ibox a x] := by
  refine DC.of_JD Try.func72 rfl Try.ntmps72 rfl fun w0 A0 => ?_
  refine JD.seq ?_
  refine JD.region_recover rfl rfl (.inl ⟨rfl, rfl, rfl⟩) rfl ?_
  refine JL.q rfl rfl rfl (QW.assert_nil ⟨_, Try.underlying28, by intro ms h; cases h⟩ zeroErrno (.tmp rfl)) ?_
  refine JL.q rfl rfl rfl (QW.move (.tmp rfl)) ?_
  refine JL.q rfl rfl rfl (QW.extract (.tmp rfl) rfl) ?_
  refine JL.q rfl rfl rfl (QW.extract (.tmp rfl) rfl) ?_
  refine JL.q rfl rfl rfl (QW.assign (.tmp rfl)) ?_
  refine JL.q rfl rfl rfl (QW.assign (.tmp rfl)) ?_
  refine JL.nil ?_
  refine thenD.nn ?_
  refine JD.of_J rfl ?_
  refine J.seq ?_
  refine J.region_lit ?_
  refine JL.q rfl rfl rfl (QW.move (.tmp rfl)) ?_
  refine JL.nil ?_
  refine thenQ.n ?_
  refine J.cond (.tmp rfl) (fun c1 => absurd c1 (by simp)) (fun c1 => ?_)
  refine J.skip ?_
  exact ⟨_, selP [.p, .p, .p] _, _, RetEv.none rfl , rfl, sel_perm [.p, .p, .p] _, ⟨rfl, rfl, rfl⟩⟩
theorem size1_pan (a b c : Nat) (x y z e : Int) : DC Try.prog 72 [ibox c z, ibox b y, ibox a x] [.c (.pointer (some ⟨a, 0, none⟩)), .c (.pointer (some ⟨b, 0, none⟩)), .c (.pointer (some ⟨c, 0, none⟩))] (.panicking [{ v := errV e, recovered := false }]) fun r u' o => r = .ret (.tup []) ∧ u' = .panicking [{ v := errV e, recovered := true }] ∧ o = [ibox c e, ibox b 0, ibox a 0] := by
  refine DC.of_JD Try.func72 rfl Try.ntmps72 rfl fun w0 A0 => ?_
  refine JD.seq ?_
  refine JD.region_recover rfl rfl (.inr ⟨[], rfl, rfl⟩) rfl ?_
  refine JL.q rfl rfl rfl (QW.assert_hit ⟨_, Try.underlying28, by intro ms h; cases h⟩ (.tmp rfl)) ?_
  refine JL.q rfl rfl rfl (QW.move (.tmp rfl)) ?_
  refine JL.q rfl rfl rfl (QW.extract (.tmp rfl) rfl) ?_
  refine JL.q rfl rfl rfl (QW.extract (.tmp rfl) rfl) ?_
  refine JL.q rfl rfl rfl (QW.assign (.tmp rfl)) ?_
  refine JL.q rfl rfl rfl (QW.assign (.tmp rfl)) ?_
  refine JL.nil ?_
  refine thenD.nn ?_
  refine JD.of_J rfl ?_
  refine J.seq ?_
  refine J.region_lit ?_
  refine JL.q rfl rfl rfl (QW.move (.tmp rfl)) ?_
  refine JL.nil ?_
  refine thenQ.n ?_
  refine J.cond (.tmp rfl) (fun c1 => ?_) (fun c1 => absurd c1 (by simp))
  refine J.region_lit ?_
  refine JL.q rfl rfl rfl (QW.move (.tmp rfl)) ?_
  refine JL.store_box 2 ty3 (.tmp rfl) rfl .const (by first | rfl | assumption) rfl rfl rfl rfl ?_
  refine JL.store_box 1 ty3 (.tmp rfl) rfl .const (by first | rfl | assumption) rfl rfl rfl rfl ?_
  refine JL.store_box 0 ty28 (.tmp rfl) rfl (.tmp rfl) (by first | rfl | assumption) rfl rfl rfl rfl ?_
  refine JL.nil ?_
  exact ⟨_, selP [.p, .p, .p] _, _, RetEv.none rfl , rfl, sel_perm [.p, .p, .p] _, ⟨rfl, rfl, rfl⟩⟩
def sizeAV (v : V) : AV := .tup [.c (.int .i64 (if v.err = 0 then v.cnt else 0)), .c (.int .i64 (if v.err = 0 then v.depth else 0)), .c (.int .i64 v.err)]
theorem sizeAV_ok {v : V} {n d : Int} (h : v.err = 0) (hn : n = v.cnt) (hd : d = v.depth) : sizeAV v = .tup [.c (.int .i64 n), .c (.int .i64 d), .c (.int .i64 0)] := by
  subst hn hd; simp [sizeAV, h]
theorem sizeAV_no {v : V} {e : Int} (h : ¬ v.err = 0) (he : e = v.err) : sizeAV v = .tup [.c (.int .i64 0), .c (.int .i64 0), .c (.int .i64 e)] := by
  subst he; simp [sizeAV, h]
theorem size_ok {fr : Bool} {v : V} {ys : List AV} (hv : Vc fr v ys) (hw : v.wf) : Fn Try.prog 21 [.agg ys] (sizeAV v) := by
  subst hv
  refine AC.of_JD Try.func21 rfl Try.ntmps21 rfl fun w0 A0 => ?_
  refine J.seq ?_
  refine J.region_lit ?_
  refine JL.box_agg (.tmp rfl) rfl fun b1 => ?_
  refine JL.alloc z3 rfl rfl fun b2 => ?_
  refine JL.alloc z3 rfl rfl fun b3 => ?_
  refine JL.alloc z28 rfl rfl fun b4 => ?_
  refine JL.nil ?_
  refine thenQ.n ?_
  refine J.seq ?_
  refine J.region_lit ?_
  refine JL.q rfl rfl rfl (QW.mkFunc .nil (.cons (.tmp rfl) (.cons (.tmp rfl) (.cons (.tmp rfl) .nil)))) ?_
  refine JL.defer rfl (.tmp rfl) ?_
  refine JL.nil ?_
  refine thenQ.n ?_
  refine J.seq ?_
  refine J.region_lit ?_
  refine JL.alloc z127 rfl rfl fun b5 => ?_
  refine JL.nil ?_
  refine thenQ.n ?_
  refine J.seq ?_
  refine J.region_lit ?_
  refine JL.q rfl rfl rfl (by first | exact QW.load_box 4 ty26 (.tmp rfl) rfl rfl rfl | exact QW.load_box 4 ty26 (.tmp rfl) rfl (take_at (V.cs_length _ _) rfl) (V.cs_length _ _)) ?_
  refine JL.callPF [.p] gofn73 rfl Lent.nil (fun _ => (.cons (.tmp rfl) (.cons (.tmp rfl) (.cons .const .nil)))) (walk_n _ Vc.self hw (by omega) (by omega) (Nat.le_refl _)) (.inl rfl) (fun k8 x8 o8 h8 => ?_) (fun k8 => ?_)
  rotate_left
  · skip
    refine thenQ.p ?_
    exact ⟨_, _, [], [_, _, _], selP [.p, .p, .p] _, _, rfl, rfl, gofn72, sel_perm [.p, .p, .p] _, DC.mono (size1_pan _ _ _ _ _ _ _) fun r u' o ⟨h1, h2, h3⟩ => by subst h1 h2 h3; exact ⟨⟨_, rfl⟩, rfl, _, [], _, RetEv.three rfl (REv.cell1 2 ty3 rfl rfl rfl (.refl _)) (REv.cell1 1 ty3 rfl rfl rfl (.refl _)) (REv.cell1 0 ty28 rfl rfl rfl (.refl _)), List.Perm.refl _, (congrArg Res.ret (sizeAV_no k8 rfl)).symm, rfl⟩⟩
  obtain ⟨rfl, rfl⟩ := h8
  refine JL.nil ?_
  refine thenQ.n ?_
  refine J.seq ?_
  refine J.region_outK 5 1 (fun os_ ow_ x_ o_ => match os_ with | [] => (x_ = .c undef ∧ o_ = ow_.set 3 (ibox b2 (v.chk 1 0).2)) | _ => False) mixed (by kernel_rfl) (by kernel_rfl) (by kernel_rfl) rfl ?_
  refine OutK.quiet [] rfl rfl rfl (fun qs_ qv_ ql_ => (.q rfl (QW.field_ptr fo127_0 (.tmp rfl) rfl))) ?_
  refine OutK.quiet [9] rfl rfl rfl (fun qs_ qv_ ql_ => by
      rcases qs_ with _ | ⟨⟨y0, p0⟩, qs_⟩
      · skip
        exact (.q rfl (QW.load_box1 0 ty3 (.tmp rfl) rfl rfl))
      rcases qs_ with _ | ⟨⟨y1, p1⟩, qs_⟩
      · skip
        obtain ⟨hr0, _⟩ := qv_
        obtain ⟨rfl, rfl⟩ := hr0
        exact (.q rfl (QW.load_box1 0 ty3 (.tmp rfl) rfl rfl))
      exact absurd ql_ (by simp)) ?_
  refine OutK.quiet [] rfl rfl rfl (fun qs_ qv_ ql_ => (.q rfl (QW.field_ptr fo127_1 (.tmp rfl) rfl))) ?_
  refine OutK.quiet [11] rfl rfl rfl (fun qs_ qv_ ql_ => by
      rcases qs_ with _ | ⟨⟨y0, p0⟩, qs_⟩
      · skip
        exact (.q rfl (QW.load_box1 0 ty3 (.tmp rfl) rfl rfl))
      rcases qs_ with _ | ⟨⟨y1, p1⟩, qs_⟩
      · skip
        obtain ⟨hr0, _⟩ := qv_
        obtain ⟨rfl, rfl⟩ := hr0
        exact (.q rfl (QW.load_box1 0 ty3 (.tmp rfl) rfl rfl))
      exact absurd ql_ (by simp)) ?_
  refine OutK.store [10] rfl (fun qs_ ow x o h ql_ => by
      obtain rfl : qs_ = [] := List.length_eq_zero_iff.1 (by simpa using ql_)
      exact h.1) rfl rfl rfl (fun qs_ qv_ ql_ => by
      obtain rfl : qs_ = [] := List.length_eq_zero_iff.1 ql_
      exact LStep.toR rfl (LStep.store_box 3 ty3 (.tmp rfl) rfl (.tmp rfl) (by first | rfl | assumption) rfl rfl rfl rfl) ⟨rfl, rfl⟩) ?_
  refine .nil fun qs_ qv_ ql_ => ?_
  obtain ⟨⟨y0, p0⟩, qs_, rfl⟩ : ∃ p t, qs_ = p :: t := by (cases qs_ with | nil => simp at ql_ | cons p t => exact ⟨p, t, rfl⟩)
  obtain rfl : qs_ = [] := List.length_eq_zero_iff.1 (by simpa using ql_)
  obtain ⟨hr0, _⟩ := qv_
  obtain ⟨rfl, rfl⟩ := hr0
  refine JL.conv (by (try simp only [stepsO, List.map_cons, List.map_nil, valO, nthO, curO, mrg, List.reverse_cons, List.reverse_nil, List.nil_append, List.cons_append, List.append_nil, List.getElem?_cons_zero, List.getElem?_cons_succ, Option.map_some, Option.getD_some, List.set_cons_zero, List.set_cons_succ, AV.cellsOf, splice_zero, splice_succ, Nat.zero_add, Nat.reduceAdd]); rfl) ?_
  refine JL.store_box 2 ty3 (.tmp rfl) rfl (.tmp rfl) (by first | rfl | assumption) rfl rfl rfl rfl ?_
  refine JL.store_box 1 ty28 (.tmp rfl) rfl .const (by first | rfl | assumption) rfl rfl rfl rfl ?_
  refine JL.nil ?_
  refine thenQ.n ?_
  refine J.ret ?_
  exact ⟨_, _, [], [_, _, _], selP [.k, .p, .p, .p] _, _, rfl, rfl, gofn72, sel_perm [.k, .p, .p, .p] _, DC.mono (size1_ret _ _ _ _ _ _) fun r u' o ⟨h1, h2, h3⟩ => by subst h1 h2 h3; exact ⟨⟨_, rfl⟩, rfl, _, [], _, RetEv.three rfl (REv.cell1 2 ty3 rfl rfl rfl (.refl _)) (REv.cell1 1 ty3 rfl rfl rfl (.refl _)) (REv.cell1 0 ty28 rfl rfl rfl (.refl _)), List.Perm.refl _, (congrArg Res.ret (sizeAV_ok k8 rfl (by have := V.chk_depth v 1 0 k8; omega))).symm, rfl⟩⟩
theorem check_ok {fr : Bool} {v : V} {ys : List AV} (hv : Vc fr v ys) (hw : v.wf) : Fn Try.prog 24 [.agg ys] (.c (.int .i64 v.err)) := by
  subst hv
  refine AC.of_J Try.func24 rfl Try.ntmps24 rfl fun w0 A0 => ?_
  refine J.seq ?_
  refine J.region_lit ?_
  refine JL.box_agg (.tmp rfl) rfl fun b1 => ?_
  refine JL.q rfl rfl rfl (QW.assign .const) ?_
  refine JL.nil ?_
  refine thenQ.n ?_
  refine J.seq ?_
  refine J.region_lit ?_
  refine JL.q rfl rfl rfl (by first | exact QW.load_box 0 ty26 (.tmp rfl) rfl rfl rfl | exact QW.load_box 0 ty26 (.tmp rfl) rfl (take_at (V.cs_length _ _) rfl) (V.cs_length _ _)) ?_
  refine JL.q rfl rfl rfl (QW.call gofn21 (.cons (.tmp rfl) .nil) (size_ok (by first | exact Vc.self | exact Vc.mk) (by assumption))) ?_
  refine JL.q rfl rfl rfl (QW.move (.tmp rfl)) ?_
  refine JL.q rfl rfl rfl (QW.extract (.tmp rfl) rfl) ?_
  refine JL.q rfl rfl rfl (QW.extract (.tmp rfl) rfl) ?_
  refine JL.q rfl rfl rfl (QW.extract (.tmp rfl) rfl) ?_
  refine JL.q rfl rfl rfl (QW.assign (.tmp rfl)) ?_
  refine JL.q rfl rfl rfl (QW.assign (.tmp rfl)) ?_
  refine JL.q rfl rfl rfl (QW.assign (.tmp rfl)) ?_
  refine JL.nil ?_
  refine thenQ.n ?_
  refine J.seq ?_
  refine J.region_lit ?_
  refine JL.q rfl rfl rfl (QW.move (.tmp rfl)) ?_
  refine JL.q rfl rfl rfl (QW.assign (.tmp rfl)) ?_
  refine JL.nil ?_
  refine thenQ.n ?_
  refine J.ret ?_
  exact ⟨_, selP [.k] _, _, RetEv.one rfl (REv.tmp rfl (.refl _)), rfl, sel_perm [.k] _, ⟨rfl, rfl⟩⟩
theorem rcheck_ok {fr : Bool} {v : V} {ys : List AV} (hv : Vc fr v ys) (hw : v.wf) : Fn Try.prog 25 [.agg ys] (.c (.int .i64 v.err)) := by
  subst hv
  refine AC.of_J Try.func25 rfl Try.ntmps25 rfl fun w0 A0 => ?_
  refine J.seq ?_
  refine J.region_lit ?_
  refine JL.box_agg (.tmp rfl) rfl fun b1 => ?_
  refine JL.q rfl rfl rfl (QW.assign .const) ?_
  refine JL.nil ?_
  refine thenQ.n ?_
  refine J.seq ?_
  refine J.region_lit ?_
  refine JL.q rfl rfl rfl (by first | exact QW.load_box 0 ty26 (.tmp rfl) rfl rfl rfl | exact QW.load_box 0 ty26 (.tmp rfl) rfl (take_at (V.cs_length _ _) rfl) (V.cs_length _ _)) ?_
  refine JL.callRF [] gofn74 rfl Lent.nil (fun _ => (.cons (.tmp rfl) (.cons .const (.cons .const .nil)))) (rwalk_ok Vc.self hw (by omega) (by omega)) (.inl rfl) fun x8 o8 h8 => ?_
  obtain ⟨rfl, p8, d8, rfl, hp8⟩ := h8
  refine JL.q rfl rfl rfl (QW.move (.tmp rfl)) ?_
  refine JL.q rfl rfl rfl (QW.extract (.tmp rfl) rfl) ?_
  refine JL.q rfl rfl rfl (QW.extract (.tmp rfl) rfl) ?_
  refine JL.q rfl rfl rfl (QW.extract (.tmp rfl) rfl) ?_
  refine JL.q rfl rfl rfl (QW.assign (.tmp rfl)) ?_
  refine JL.q rfl rfl rfl (QW.assign (.tmp rfl)) ?_
  refine JL.q rfl rfl rfl (QW.assign (.tmp rfl)) ?_
  refine JL.nil ?_
  refine thenQ.n ?_
  refine J.seq ?_
  refine J.region_lit ?_
  refine JL.q rfl rfl rfl (QW.move (.tmp rfl)) ?_
  refine JL.q rfl rfl rfl (QW.assign (.tmp rfl)) ?_
  refine JL.nil ?_
  refine thenQ.n ?_
  refine J.ret ?_
  exact ⟨_, selP [.k] _, _, RetEv.one rfl (REv.tmp rfl (.refl _)), rfl, sel_perm [.k] _, ⟨rfl, rfl⟩⟩
end Go.Proofs.Ytkiankpmkglhcaa.J

/- Walks: what the statements share: are two things one; copies of values. -/
namespace Go.Proofs.Ytkiankpmkglhcaa.J
open Go Go.RowKit
set_option linter.unusedVariables false
set_option linter.unusedSimpArgs false
set_option maxRecDepth 10000
set_option maxHeartbeats 4000000
theorem list_split {α : Type} [BEq α] [LawfulBEq α] {a b : List α} (hl : a.length = b.length) {k : Nat} (h : a.take k = b.take k) (ha : k < a.length) : (a.take (k + 1) = b.take (k + 1)) ↔ a[k] = b[k]'(hl ▸ ha) := by
  have hb : k < b.length := by omega
  rw [List.take_succ_eq_append_getElem (l := a) ha, List.take_succ_eq_append_getElem (l := b) hb, h, List.append_right_inj]
  simp
theorem sameStrings_ok {fr fr2 : Bool} (a b : List Str) (ha : a.length ≤ 9223372036854775806) (hb : b.length ≤ 9223372036854775806) : Fn Try.prog 75 [.sl fr false eStr (keysAV a), .sl fr2 false eStr (keysAV b)] (.c (.bool (a == b))) := by
  refine AC.of_J Try.func75 rfl Try.ntmps75 rfl fun w0 A0 => ?_
  refine J.seq ?_
  refine J.region_lit ?_
  refine JL.q rfl rfl rfl (QW.assign .const) ?_
  refine JL.nil ?_
  refine thenQ.n ?_
  refine J.seq ?_
  refine J.seq ?_
  refine J.region_lit ?_
  refine JL.q rfl rfl rfl (QW.move (.tmp rfl)) ?_
  refine JL.q rfl rfl rfl (by first | exact QW.len_sl sl23 (.tmp rfl) | exact QW.len_nil sl23 (.tmp rfl)) ?_
  refine JL.q rfl rfl rfl (QW.move (.tmp rfl)) ?_
  refine JL.q rfl rfl rfl (by first | exact QW.len_sl sl23 (.tmp rfl) | exact QW.len_nil sl23 (.tmp rfl)) ?_
  refine JL.q rfl rfl rfl (QW.neq (.tmp rfl) (.tmp rfl)) ?_
  refine JL.nil ?_
  refine thenQ.n ?_
  refine J.cond (.tmp rfl) (fun c1 => ?_) (fun c1 => ?_)
  · skip
    simp [keysAV_length] at c1
    refine J.seq ?_
    refine J.region_lit ?_
    refine JL.q rfl rfl rfl (QW.assign .const) ?_
    refine JL.nil ?_
    refine thenQ.n ?_
    refine J.ret ?_
    refine thenQ.r ?_
    exact ⟨_, selP [] _, _, RetEv.one rfl (REv.tmp rfl (.refl _)), rfl, sel_perm [] _, ⟨ret_b (by simp; intro e; subst e; exact c1 rfl), rfl⟩⟩
  · skip
    have hl : a.length = b.length := by simp [keysAV_length] at c1; omega
    refine J.skip ?_
    refine thenQ.n ?_
    refine J.seq ?_
    refine J.seq ?_
    refine J.region_lit ?_
    refine JL.q rfl rfl rfl (QW.assign .const) ?_
    refine JL.nil ?_
    refine thenQ.n ?_
    refine J.block ?_
    refine J.loopK (ι := Nat) [0, 1] (fun k => [(5, .c (.int .i64 (k : Int)))]) (fun _ oo => oo) (fun k => k ≤ a.length ∧ a.take k = b.take k) (fun k => a.length - k) 0 (⟨Nat.zero_le _, rfl⟩) (Wk.re (.cons rfl (.refl _) (.cons rfl (.refl _) (.cons rfl (.refl _) .nil))) (Reown.refl _) (fun _ h => by first | exact h | simp [h])) ?_
    intro k ⟨hk, heqs⟩
    refine J.conv (by (try simp only [stepsO, List.map_cons, List.map_nil, valO, nthO, curO, mrg, List.reverse_cons, List.reverse_nil, List.nil_append, List.cons_append, List.append_nil, List.getElem?_cons_zero, List.getElem?_cons_succ, Option.map_some, Option.getD_some, List.set_cons_zero, List.set_cons_succ, AV.cellsOf, splice_zero, splice_succ, Nat.zero_add, Nat.reduceAdd]); rfl) ?_
    refine J.seq ?_
    refine J.seq ?_
    refine J.region_lit ?_
    refine JL.q rfl rfl rfl (QW.move (.tmp rfl)) ?_
    refine JL.q rfl rfl rfl (QW.move (.tmp rfl)) ?_
    refine JL.q rfl rfl rfl (by first | exact QW.len_sl sl23 (.tmp rfl) | exact QW.len_nil sl23 (.tmp rfl)) ?_
    refine JL.q rfl rfl rfl (QW.lss (.tmp rfl) (.tmp rfl)) ?_
    refine JL.nil ?_
    refine thenQ.n ?_
    refine J.cond (.tmp rfl) (fun c2 => ?_) (fun c2 => ?_)
    · skip
      have hlt : k < a.length := by simpa [keysAV_length] using c2
      refine J.skip ?_
      refine thenQ.n ?_
      refine J.seq ?_
      refine J.block ?_
      refine J.seq ?_
      refine J.region_tailK 8 mixed (by kernel_rfl) (by kernel_rfl) (by kernel_rfl) rfl ?_
      refine .cons [] rfl rfl rfl (.q rfl (QW.move (.tmp rfl))) ?_
      refine .cons [] rfl rfl rfl (.q rfl (QW.move (.tmp rfl))) ?_
      refine .cons [17, 18] rfl rfl rfl (.q rfl (QW.index_sl sl23 ty9 rfl (.tmp rfl) (.tmp rfl) (by first | rfl | omega | (simp; done)) (by exact keysAV_getE (by omega)))) ?_
      refine .cons [19] rfl rfl rfl (.q rfl (QW.load_ref1 ty9 (.tmp rfl) rfl)) ?_
      refine .cons [] rfl rfl rfl (.q rfl (QW.move (.tmp rfl))) ?_
      refine .cons [] rfl rfl rfl (.q rfl (QW.move (.tmp rfl))) ?_
      refine .cons [21, 22] rfl rfl rfl (.q rfl (QW.index_sl sl23 ty9 rfl (.tmp rfl) (.tmp rfl) (by first | rfl | omega | (simp; done)) (by exact keysAV_getE (by omega)))) ?_
      refine .cons [23] rfl rfl rfl (.q rfl (QW.load_ref1 ty9 (.tmp rfl) rfl)) ?_
      refine .nil ?_
      refine JL.q rfl rfl rfl (QW.neq_s (.tmp rfl) (.tmp rfl)) ?_
      refine JL.nil ?_
      refine thenQ.n ?_
      refine J.cond (.tmp rfl) (fun c3 => ?_) (fun c3 => ?_)
      · skip
        have hne : a[k] ≠ b[k] := by simpa using c3
        refine J.seq ?_
        refine J.region_lit ?_
        refine JL.q rfl rfl rfl (QW.assign .const) ?_
        refine JL.nil ?_
        refine thenQ.n ?_
        refine J.ret ?_
        refine blkQ.r ?_
        refine thenQ.r ?_
        refine thenQ.r ?_
        refine blkQ.r ?_
        refine thenQ.r ?_
        exact ⟨_, selP [] _, _, RetEv.one rfl (REv.tmp rfl (.refl _)), rfl, sel_perm [] _, ⟨ret_b (by simp; intro e; subst e; exact hne rfl), rfl⟩⟩
      · skip
        have heq : a[k] = b[k] := by simpa using c3
        refine J.skip ?_
        refine blkQ.n ?_
        refine thenQ.n ?_
        refine J.region_lit ?_
        refine JL.q rfl rfl rfl (QW.move (.tmp rfl)) ?_
        refine JL.q rfl rfl rfl (QW.add (.tmp rfl) .const (by first | exact w64n (by first | rfl | omega | (simp; done)) (by omega) | exact w64 (by omega) | rfl)) ?_
        refine JL.q rfl rfl rfl (QW.assign (.tmp rfl)) ?_
        refine JL.nil ?_
        refine thenQ.n ?_
        exact ⟨k + 1, ⟨hlt, (list_split hl heqs hlt).2 heq⟩, by omega, Wk.re (.cons rfl (.refl _) (.cons rfl (.refl _) (.cons rfl (.refl _) .nil))) (Reown.refl _) (fun _ h => by first | exact h | simp [h])⟩
    · skip
      have hge : a.length ≤ k := by simpa [keysAV_length] using c2
      refine J.exit ?_
      refine thenQ.x ?_
      refine thenQ.x ?_
      refine blkQ.hit ?_
      refine thenQ.n ?_
      refine J.seq ?_
      refine J.region_lit ?_
      refine JL.q rfl rfl rfl (QW.assign .const) ?_
      refine JL.nil ?_
      refine thenQ.n ?_
      refine J.ret ?_
      exact ⟨_, selP [] _, _, RetEv.one rfl (REv.tmp rfl (.refl _)), rfl, sel_perm [] _, ⟨ret_b (by simp; rw [List.take_of_length_le hge, List.take_of_length_le (by omega)] at heqs; exact heqs), rfl⟩⟩
theorem sames_drop {a b : List V} {k : Nat} (ha : k < a.length) (hb : k < b.length) : V.sames (a.drop k) (b.drop k) = (a[k].same b[k] && V.sames (a.drop (k + 1)) (b.drop (k + 1))) := by
  rw [List.drop_eq_getElem_cons ha, List.drop_eq_getElem_cons hb, V.sames]
theorem sames_len : ∀ {a b : List V}, V.sames a b = true → a.length = b.length
  | [], [], _ => rfl
  | x :: r, y :: s, h => by simp only [V.sames, Bool.and_eq_true] at h; simp [sames_len h.2]
  | [], _ :: _, h => by simp [V.sames] at h
  | _ :: _, [], h => by simp [V.sames] at h
theorem sameValue_n  : ∀ (n : Nat) {v u : V} {ys zs : List AV} {fr fr2 : Bool}, Vc fr v ys → Vc fr2 u zs → v.wf → u.wf → v.sz ≤ n →
    Fn Try.prog 26 [.agg ys, .agg zs] (.c (.bool (v.same u))) := by
  intro n
  induction n with
  | zero => intro v u ys zs fr fr2 hv hu hw hw2 h; exact absurd h (by have := V.sz_pos v; omega)
  | succ n ih =>
    intro v u ys zs fr fr2 hv hu hw hw2 hn
    obtain ⟨k, b, t, ks, is⟩ := v
    obtain ⟨k', b', t', ks', is'⟩ := u
    subst hv hu
    obtain ⟨-, -, -, hk16, hi80, -, hwi⟩ := hw.inv
    obtain ⟨-, -, -, hk16', hi80', -, hwi'⟩ := hw2.inv
    have h1 : is.length ≤ 9223372036854775806 := by unfold reach at hi80; omega
    have h2 : is'.length ≤ 9223372036854775806 := by unfold reach at hi80'; omega
    have h3 : ks.length ≤ 9223372036854775806 := by unfold reach at hk16; omega
    have h4 : ks'.length ≤ 9223372036854775806 := by unfold reach at hk16'; omega
    refine AC.of_J Try.func26 rfl Try.ntmps26 rfl fun w0 A0 => ?_
    refine J.seq ?_
    refine J.region_lit ?_
    refine JL.box_agg (.tmp rfl) rfl fun b2 => ?_
    refine JL.box_agg (.tmp rfl) rfl fun b3 => ?_
    refine JL.q rfl rfl rfl (QW.assign .const) ?_
    refine JL.nil ?_
    refine thenQ.n ?_
    refine J.seq ?_
    refine J.seq ?_
    refine J.region_lit ?_
    refine JL.q rfl rfl rfl (QW.field_ptr fo26_0 (.tmp rfl) rfl) ?_
    refine JL.q rfl rfl rfl (QW.load_box1 1 ty3 (.tmp rfl) rfl rfl) ?_
    refine JL.q rfl rfl rfl (QW.field_ptr fo26_0 (.tmp rfl) rfl) ?_
    refine JL.q rfl rfl rfl (QW.load_box1 0 ty3 (.tmp rfl) rfl rfl) ?_
    refine JL.q rfl rfl rfl (QW.neq (.tmp rfl) (.tmp rfl)) ?_
    refine JL.q rfl rfl rfl (QW.move (.tmp rfl)) ?_
    refine JL.g rfl rfl rfl rfl rfl (fun hg => (QW.field_ptr fo26_1 (.tmp rfl) rfl)) ?_
    refine JL.g rfl rfl rfl rfl rfl (fun hg => (QW.load_box1 1 ty22 (.when rfl hg) rfl rfl)) ?_
    refine JL.g rfl rfl rfl rfl rfl (fun hg => (QW.field_ptr fo26_1 (.tmp rfl) rfl)) ?_
    refine JL.g rfl rfl rfl rfl rfl (fun hg => (QW.load_box1 0 ty22 (.when rfl hg) rfl rfl)) ?_
    refine JL.g rfl rfl rfl rfl rfl (fun hg => (QW.neq (.when rfl hg) (.when rfl hg))) ?_
    refine JL.q rfl rfl rfl (QW.pick_or (.tmp rfl) (.tmp rfl)) ?_
    refine JL.q rfl rfl rfl (QW.move (.tmp rfl)) ?_
    refine JL.g rfl rfl rfl rfl rfl (fun hg => (QW.field_ptr fo26_2 (.tmp rfl) rfl)) ?_
    refine JL.g rfl rfl rfl rfl rfl (fun hg => (QW.load_box1 1 ty9 (.when rfl hg) rfl rfl)) ?_
    refine JL.g rfl rfl rfl rfl rfl (fun hg => (QW.field_ptr fo26_2 (.tmp rfl) rfl)) ?_
    refine JL.g rfl rfl rfl rfl rfl (fun hg => (QW.load_box1 0 ty9 (.when rfl hg) rfl rfl)) ?_
    refine JL.g rfl rfl rfl rfl rfl (fun hg => (QW.neq_s (.when rfl hg) (.when rfl hg))) ?_
    refine JL.q rfl rfl rfl (QW.pick_or (.tmp rfl) (.tmp rfl)) ?_
    refine JL.q rfl rfl rfl (QW.move (.tmp rfl)) ?_
    refine JL.g rfl rfl rfl rfl rfl (fun hg => (QW.field_ptr fo26_3 (.tmp rfl) rfl)) ?_
    refine JL.g rfl rfl rfl rfl rfl (fun hg => (QW.load_box1 1 ty23 (.when rfl hg) rfl rfl)) ?_
    refine JL.g rfl rfl rfl rfl rfl (fun hg => (QW.field_ptr fo26_3 (.tmp rfl) rfl)) ?_
    refine JL.g rfl rfl rfl rfl rfl (fun hg => (QW.load_box1 0 ty23 (.when rfl hg) rfl rfl)) ?_
    refine JL.g rfl rfl rfl rfl rfl (fun hg => (QW.call gofn75 (.cons (.when rfl hg) (.cons (.when rfl hg) .nil)) (sameStrings_ok _ _ h3 h4))) ?_
    refine JL.g rfl rfl rfl rfl rfl (fun hg => (QW.not (.when rfl hg))) ?_
    refine JL.q rfl rfl rfl (QW.pick_or (.tmp rfl) (.tmp rfl)) ?_
    refine JL.q rfl rfl rfl (QW.move (.tmp rfl)) ?_
    refine JL.g rfl rfl rfl rfl rfl (fun hg => (QW.field_ptr fo26_4 (.tmp rfl) rfl)) ?_
    refine JL.g rfl rfl rfl rfl rfl (fun hg => (QW.load_box1 1 ty24 (.when rfl hg) rfl rfl)) ?_
    refine JL.g rfl rfl rfl rfl rfl (fun hg => (by first | exact QW.len_sl sl24 (.when rfl hg) | exact QW.len_nil sl24 (.when rfl hg))) ?_
    refine JL.g rfl rfl rfl rfl rfl (fun hg => (QW.field_ptr fo26_4 (.tmp rfl) rfl)) ?_
    refine JL.g rfl rfl rfl rfl rfl (fun hg => (QW.load_box1 0 ty24 (.when rfl hg) rfl rfl)) ?_
    refine JL.g rfl rfl rfl rfl rfl (fun hg => (by first | exact QW.len_sl sl24 (.when rfl hg) | exact QW.len_nil sl24 (.when rfl hg))) ?_
    refine JL.g rfl rfl rfl rfl rfl (fun hg => (QW.neq (.when rfl hg) (.when rfl hg))) ?_
    refine JL.q rfl rfl rfl (QW.pick_or (.tmp rfl) (.tmp rfl)) ?_
    refine JL.nil ?_
    refine thenQ.n ?_
    refine J.cond (.tmp rfl) (fun c1 => ?_) (fun c1 => ?_)
    · skip
      simp [V.css_length] at c1
      refine J.seq ?_
      refine J.region_lit ?_
      refine JL.q rfl rfl rfl (QW.assign .const) ?_
      refine JL.nil ?_
      refine thenQ.n ?_
      refine J.ret ?_
      refine thenQ.r ?_
      exact ⟨_, selP [.k, .k] _, _, RetEv.one rfl (REv.tmp rfl (.refl _)), rfl, sel_perm [.k, .k] _, ⟨ret_b (by simp [V.same]; intro e1 e2 e3 e4; subst e1 e2 e3 e4; cases hs : V.sames is is' with | false => rfl | true => have := sames_len hs; simp at c1; omega), rfl⟩⟩
    · skip
      simp [V.css_length] at c1
      obtain ⟨⟨⟨⟨e1, e2⟩, e3⟩, e4⟩, e5⟩ := c1
      have hl : is.length = is'.length := by omega
      refine J.skip ?_
      refine thenQ.n ?_
      refine J.seq ?_
      refine J.seq ?_
      refine J.region_lit ?_
      refine JL.q rfl rfl rfl (QW.assign .const) ?_
      refine JL.nil ?_
      refine thenQ.n ?_
      refine J.block ?_
      refine J.loopK (ι := Nat) [2, 3] (fun j => [(5, .c (.int .i64 (j : Int)))]) (fun _ oo => oo) (fun j => j ≤ is.length ∧ V.sames is is' = V.sames (is.drop j) (is'.drop j)) (fun j => is.length - j) 0 (⟨Nat.zero_le _, rfl⟩) (Wk.re (.cons rfl (.refl _) (.cons rfl (.refl _) (.cons rfl (.refl _) .nil))) (Reown.refl _) (fun _ h => by first | exact h | simp [h])) ?_
      intro j ⟨hj, hs⟩
      refine J.conv (by (try simp only [stepsO, List.map_cons, List.map_nil, valO, nthO, curO, mrg, List.reverse_cons, List.reverse_nil, List.nil_append, List.cons_append, List.append_nil, List.getElem?_cons_zero, List.getElem?_cons_succ, Option.map_some, Option.getD_some, List.set_cons_zero, List.set_cons_succ, AV.cellsOf, splice_zero, splice_succ, Nat.zero_add, Nat.reduceAdd]); rfl) ?_
      refine J.seq ?_
      refine J.seq ?_
      refine J.region_lit ?_
      refine JL.q rfl rfl rfl (QW.move (.tmp rfl)) ?_
      refine JL.q rfl rfl rfl (QW.field_ptr fo26_4 (.tmp rfl) rfl) ?_
      refine JL.q rfl rfl rfl (QW.load_box1 1 ty24 (.tmp rfl) rfl rfl) ?_
      refine JL.q rfl rfl rfl (by first | exact QW.len_sl sl24 (.tmp rfl) | exact QW.len_nil sl24 (.tmp rfl)) ?_
      refine JL.q rfl rfl rfl (QW.lss (.tmp rfl) (.tmp rfl)) ?_
      refine JL.nil ?_
      refine thenQ.n ?_
      refine J.cond (.tmp rfl) (fun c2 => ?_) (fun c2 => ?_)
      · skip
        have hlt : j < is.length := by simpa [V.css_length] using c2
        have hlt2 : j < is'.length := by omega
        refine J.skip ?_
        refine thenQ.n ?_
        refine J.seq ?_
        refine J.block ?_
        refine J.seq ?_
        refine J.region_tailK 10 mixed (by kernel_rfl) (by kernel_rfl) (by kernel_rfl) rfl ?_
        refine .cons [] rfl rfl rfl (.q rfl (QW.field_ptr fo26_4 (.tmp rfl) rfl)) ?_
        refine .cons [49] rfl rfl rfl (.q rfl (QW.load_box1 1 ty24 (.tmp rfl) rfl rfl)) ?_
        refine .cons [] rfl rfl rfl (.q rfl (QW.move (.tmp rfl))) ?_
        refine .cons [50, 51] rfl rfl rfl (.q rfl (QW.index_sl sl24 ty26 rfl (.tmp rfl) (.tmp rfl) (by first | rfl | omega | (simp; done)) (by first | exact V.css_getE _ hlt | exact V.css_getE _ hlt2))) ?_
        refine .cons [52] rfl rfl rfl (.q rfl (by first | exact QW.load_ref ty26 (.tmp rfl) rfl rfl | exact QW.load_ref ty26 (.tmp rfl) (take_at0 (V.cs_length _ _) rfl) (V.cs_length _ _))) ?_
        refine .cons [] rfl rfl rfl (.q rfl (QW.field_ptr fo26_4 (.tmp rfl) rfl)) ?_
        refine .cons [54] rfl rfl rfl (.q rfl (QW.load_box1 0 ty24 (.tmp rfl) rfl rfl)) ?_
        refine .cons [] rfl rfl rfl (.q rfl (QW.move (.tmp rfl))) ?_
        refine .cons [55, 56] rfl rfl rfl (.q rfl (QW.index_sl sl24 ty26 rfl (.tmp rfl) (.tmp rfl) (by first | rfl | omega | (simp; done)) (by first | exact V.css_getE _ hlt | exact V.css_getE _ hlt2))) ?_
        refine .cons [57] rfl rfl rfl (.q rfl (by first | exact QW.load_ref ty26 (.tmp rfl) rfl rfl | exact QW.load_ref ty26 (.tmp rfl) (take_at0 (V.cs_length _ _) rfl) (V.cs_length _ _))) ?_
        refine .nil ?_
        refine JL.q rfl rfl rfl (QW.call gofn26 (.cons (.tmp rfl) (.cons (.tmp rfl) .nil)) (ih Vc.self Vc.self (hwi _ (List.getElem_mem _)) (hwi' _ (List.getElem_mem _)) (V.sz_get hn hlt))) ?_
        refine JL.q rfl rfl rfl (QW.not (.tmp rfl)) ?_
        refine JL.nil ?_
        refine thenQ.n ?_
        refine J.cond (.tmp rfl) (fun c3 => ?_) (fun c3 => ?_)
        · skip
          simp at c3
          refine J.seq ?_
          refine J.region_lit ?_
          refine JL.q rfl rfl rfl (QW.assign .const) ?_
          refine JL.nil ?_
          refine thenQ.n ?_
          refine J.ret ?_
          refine blkQ.r ?_
          refine thenQ.r ?_
          refine thenQ.r ?_
          refine blkQ.r ?_
          refine thenQ.r ?_
          exact ⟨_, selP [.k, .k] _, _, RetEv.one rfl (REv.tmp rfl (.refl _)), rfl, sel_perm [.k, .k] _, ⟨ret_b (by rw [sames_drop hlt hlt2, c3] at hs; simp [V.same, hs]), rfl⟩⟩
        · skip
          simp at c3
          refine J.skip ?_
          refine blkQ.n ?_
          refine thenQ.n ?_
          refine J.region_lit ?_
          refine JL.q rfl rfl rfl (QW.move (.tmp rfl)) ?_
          refine JL.q rfl rfl rfl (QW.add (.tmp rfl) .const (by first | exact w64n (by first | rfl | omega | (simp; done)) (by omega) | exact w64 (by omega) | rfl)) ?_
          refine JL.q rfl rfl rfl (QW.assign (.tmp rfl)) ?_
          refine JL.nil ?_
          refine thenQ.n ?_
          rw [sames_drop hlt hlt2, c3, Bool.true_and] at hs
          exact ⟨j + 1, ⟨hlt, hs⟩, by omega, Wk.re (.cons rfl (.refl _) (.cons rfl (.refl _) (.cons rfl (.refl _) .nil))) (Reown.refl _) (fun _ h => by first | exact h | simp [h])⟩
      · skip
        have hge : is.length ≤ j := by simpa [V.css_length] using c2
        refine J.exit ?_
        refine thenQ.x ?_
        refine thenQ.x ?_
        refine blkQ.hit ?_
        refine thenQ.n ?_
        refine J.seq ?_
        refine J.region_lit ?_
        refine JL.q rfl rfl rfl (QW.assign .const) ?_
        refine JL.nil ?_
        refine thenQ.n ?_
        refine J.ret ?_
        have hz : V.sames is is' = true := by
          rw [hs, List.drop_of_length_le hge, List.drop_of_length_le (by omega), V.sames]
        exact ⟨_, selP [.k, .k] _, _, RetEv.one rfl (REv.tmp rfl (.refl _)), rfl, sel_perm [.k, .k] _, ⟨ret_b (by simp [V.same, hz, e3, e4]; omega), rfl⟩⟩
end Go.Proofs.Ytkiankpmkglhcaa.J

/- Walks: the page's copy of a value; the program's; lists that are copied. -/
namespace Go.Proofs.Ytkiankpmkglhcaa.J
open Go Go.RowKit
set_option linter.unusedVariables false
set_option linter.unusedSimpArgs false
set_option maxRecDepth 10000
set_option maxHeartbeats 4000000
theorem sameValue_ok {v u : V} {ys zs : List AV} {fr fr2 : Bool} (hv : Vc fr v ys) (hu : Vc fr2 u zs) (hw : v.wf) (hw2 : u.wf) : Fn Try.prog 26 [.agg ys, .agg zs] (.c (.bool (v.same u))) := sameValue_n _ hv hu hw hw2 (Nat.le_refl _)
def CloneR (e : ETy) (xs : List (List AV)) : AV → List Own → Prop := fun x o => ∃ v, x = .c v ∧ v.oneCell' = true ∧ o = [.arr v e xs]
theorem cloneStr_ok {fr : Bool} (xs : List (List AV)) (hr : xs.length * 16 ≤ reach) : AC Try.prog 108 [] [.sl fr false eStr xs] (RetR (CloneR eStr xs)) := by
  refine AC.of_J Try.func108 rfl Try.ntmps108 rfl fun w0 A0 => ?_
  refine J.seq ?_
  refine J.region_lit ?_
  refine JL.q rfl rfl rfl (QW.assign .const) ?_
  refine JL.nil ?_
  refine thenQ.n ?_
  refine J.seq ?_
  refine J.seq ?_
  refine J.region_lit ?_
  refine JL.q rfl rfl rfl (QW.move (.tmp rfl)) ?_
  refine JL.eqnil sl23 (.tmp rfl) .const rfl fun n4 hn4 => ?_
  refine JL.nil ?_
  refine thenQ.n ?_
  refine J.cond (.tmp rfl) (fun c1 => ?_) (fun c1 => ?_)
  · skip
    refine J.seq ?_
    refine J.reown (Reown.nilArrE eStr _) ?_
    refine J.region_lit ?_
    refine JL.q rfl rfl rfl (QW.assign .const) ?_
    refine JL.nil ?_
    refine thenQ.n ?_
    refine J.ret ?_
    refine thenQ.r ?_
    obtain rfl : xs = [] := hn4 c1
    exact ⟨_, selP [.p] _, _, RetEv.one rfl (REv.tmp rfl (.refl _)), rfl, sel_perm [.p] _, ⟨_, rfl, _, rfl, rfl, rfl⟩⟩
  · skip
    refine J.skip ?_
    refine thenQ.n ?_
    refine J.seq ?_
    refine J.region_lit ?_
    refine JL.buildSlice0 sl23 el9 rfl rfl fun v5 => ?_
    refine JL.q rfl rfl rfl (QW.move (.tmp rfl)) ?_
    refine JL.append 0 sl23 el9 rfl (.tmp rfl) rfl (srcA_sl sl23 (.tmp rfl)) (by simpa using hr) rfl fun v7 => ?_
    refine JL.isSlice 0 rfl fun hs1 => ?_
    refine JL.q rfl rfl rfl (QW.assign (.tmp rfl)) ?_
    refine JL.nil ?_
    refine thenQ.n ?_
    refine J.ret ?_
    exact ⟨_, selP [.p] _, _, RetEv.one rfl (REv.tmp rfl (.refl _)), rfl, sel_perm [.p] _, ⟨_, rfl, _, rfl, hs1, rfl⟩⟩
theorem cloneVal_ok {fr : Bool} (xs : List (List AV)) (hr : xs.length * 80 ≤ reach) : AC Try.prog 109 [] [.sl fr false eV xs] (RetR (CloneR eV xs)) := by
  refine AC.of_J Try.func109 rfl Try.ntmps109 rfl fun w0 A0 => ?_
  refine J.seq ?_
  refine J.region_lit ?_
  refine JL.q rfl rfl rfl (QW.assign .const) ?_
  refine JL.nil ?_
  refine thenQ.n ?_
  refine J.seq ?_
  refine J.seq ?_
  refine J.region_lit ?_
  refine JL.q rfl rfl rfl (QW.move (.tmp rfl)) ?_
  refine JL.eqnil sl24 (.tmp rfl) .const rfl fun n4 hn4 => ?_
  refine JL.nil ?_
  refine thenQ.n ?_
  refine J.cond (.tmp rfl) (fun c1 => ?_) (fun c1 => ?_)
  · skip
    refine J.seq ?_
    refine J.reown (Reown.nilArrE eV _) ?_
    refine J.region_lit ?_
    refine JL.q rfl rfl rfl (QW.assign .const) ?_
    refine JL.nil ?_
    refine thenQ.n ?_
    refine J.ret ?_
    refine thenQ.r ?_
    obtain rfl : xs = [] := hn4 c1
    exact ⟨_, selP [.p] _, _, RetEv.one rfl (REv.tmp rfl (.refl _)), rfl, sel_perm [.p] _, ⟨_, rfl, _, rfl, rfl, rfl⟩⟩
  · skip
    refine J.skip ?_
    refine thenQ.n ?_
    refine J.seq ?_
    refine J.region_lit ?_
    refine JL.buildSlice0 sl24 el26 rfl rfl fun v5 => ?_
    refine JL.q rfl rfl rfl (QW.move (.tmp rfl)) ?_
    refine JL.append 0 sl24 el26 rfl (.tmp rfl) rfl (srcA_sl sl24 (.tmp rfl)) (by simpa using hr) rfl fun v7 => ?_
    refine JL.isSlice 0 rfl fun hs1 => ?_
    refine JL.q rfl rfl rfl (QW.assign (.tmp rfl)) ?_
    refine JL.nil ?_
    refine thenQ.n ?_
    refine J.ret ?_
    exact ⟨_, selP [.p] _, _, RetEv.one rfl (REv.tmp rfl (.refl _)), rfl, sel_perm [.p] _, ⟨_, rfl, _, rfl, hs1, rfl⟩⟩
theorem clone_get {cs : List (List AV)} {is : List V} {j : Nat} (fr : Bool) (hc : cs.length = j) (h : j < is.length) : (cs ++ V.css fr (is.drop j))[j]? = some (V.cs fr is[j]) := by
  rw [List.getElem?_append_right (by omega), hc, Nat.sub_self, List.drop_eq_getElem_cons h]; rfl
theorem clone_set {cs : List (List AV)} {is : List V} {j : Nat} {fr : Bool} {z : List AV} (hc : cs.length = j) (h : j < is.length) : (cs ++ V.css fr (is.drop j)).set j z = (cs ++ [z]) ++ V.css fr (is.drop (j + 1)) := by
  rw [List.set_append_right _ _ (by omega), hc, Nat.sub_self, List.drop_eq_getElem_cons h]
  simp [V.css]
theorem splice_all {ys zs : List AV} (h : zs.length = ys.length) : splice ys 0 zs = zs := by unfold splice; simp [h]
theorem clone_n  : ∀ (n : Nat) {v : V} {ys : List AV} {fr : Bool}, Vc fr v ys → v.wf → v.sz ≤ n → AC Try.prog 77 [] [.agg ys] (RetR (CopyR v)) := by
  intro n
  induction n with
  | zero => intro v ys fr hv hw h; exact absurd h (by have := V.sz_pos v; omega)
  | succ n ih =>
    intro v ys fr hv hw hn
    obtain ⟨k, b, t, ks, is⟩ := v
    subst hv
    obtain ⟨-, -, -, hk16, hi80, -, hwi⟩ := hw.inv
    have h1 : is.length ≤ 9223372036854775806 := by unfold reach at hi80; omega
    refine AC.of_J Try.func77 rfl Try.ntmps77 rfl fun w0 A0 => ?_
    refine J.seq ?_
    refine J.region_lit ?_
    refine JL.box_agg (.tmp rfl) rfl fun b1 => ?_
    refine JL.alloc z26 rfl rfl fun b2 => ?_
    refine JL.nil ?_
    refine thenQ.n ?_
    refine J.seq ?_
    refine J.region_outK 7 2 (fun os_ ow_ x_ o_ => match os_ with | [] => (∃ o2_, (CloneR eStr (keysAV ks)) x_ o2_ ∧ o_ = mrg [] o2_ ow_) | [(x0_, _)] => (∃ o2_, (CloneR eV (V.css fr is)) x_ o2_ ∧ o_ = mrg [] o2_ ow_) | _ => False) mixed (by kernel_rfl) (by kernel_rfl) (by kernel_rfl) rfl ?_
    refine OutK.quiet [] rfl rfl rfl (fun qs_ qv_ ql_ => (.q rfl (QW.field_ptr fo26_3 (.tmp rfl) rfl))) ?_
    refine OutK.quiet [5] rfl rfl rfl (fun qs_ qv_ ql_ => by
        rcases qs_ with _ | ⟨⟨y0, p0⟩, qs_⟩
        · skip
          exact (.q rfl (QW.load_box1 1 ty23 (.tmp rfl) rfl rfl))
        rcases qs_ with _ | ⟨⟨y1, p1⟩, qs_⟩
        · skip
          obtain ⟨hr0, _⟩ := qv_
          obtain ⟨o7, ⟨kv7, rfl, hs7, rfl⟩, rfl⟩ := hr0
          exact (.q rfl (QW.load_box1 1 ty23 (.tmp rfl) rfl rfl))
        rcases qs_ with _ | ⟨⟨y2, p2⟩, qs_⟩
        · skip
          obtain ⟨hr1, hr0, _⟩ := qv_
          obtain ⟨o7, ⟨kv7, rfl, hs7, rfl⟩, rfl⟩ := hr0
          obtain ⟨o10, ⟨iv10, rfl, hs10, rfl⟩, rfl⟩ := hr1
          exact (.q rfl (QW.load_box1 1 ty23 (.tmp rfl) rfl rfl))
        exact absurd ql_ (by simp)) ?_
    refine OutK.loud [6] rfl rfl rfl rfl rfl (fun qs_ qv_ ql_ => by
        obtain rfl : qs_ = [] := List.length_eq_zero_iff.1 ql_
        exact LStepR.callRF (d := 7) [] gofn108 Lent.nil (fun _ => (.cons (.tmp rfl) .nil)) (cloneStr_ok _ (by rw [keysAV_length]; exact hk16)) (.inl rfl)) ?_
    refine OutK.quiet [] rfl rfl rfl (fun qs_ qv_ ql_ => (.q rfl (QW.field_ptr fo26_4 (.tmp rfl) rfl))) ?_
    refine OutK.quiet [8] rfl rfl rfl (fun qs_ qv_ ql_ => by
        rcases qs_ with _ | ⟨⟨y0, p0⟩, qs_⟩
        · skip
          exact (.q rfl (QW.load_box1 1 ty24 (.tmp rfl) rfl rfl))
        rcases qs_ with _ | ⟨⟨y1, p1⟩, qs_⟩
        · skip
          obtain ⟨hr0, _⟩ := qv_
          obtain ⟨o7, ⟨kv7, rfl, hs7, rfl⟩, rfl⟩ := hr0
          exact (.q rfl (QW.load_box1 1 ty24 (.tmp rfl) rfl rfl))
        rcases qs_ with _ | ⟨⟨y2, p2⟩, qs_⟩
        · skip
          obtain ⟨hr1, hr0, _⟩ := qv_
          obtain ⟨o7, ⟨kv7, rfl, hs7, rfl⟩, rfl⟩ := hr0
          obtain ⟨o10, ⟨iv10, rfl, hs10, rfl⟩, rfl⟩ := hr1
          exact (.q rfl (QW.load_box1 1 ty24 (.tmp rfl) rfl rfl))
        exact absurd ql_ (by simp)) ?_
    refine OutK.loud [9] rfl rfl rfl rfl rfl (fun qs_ qv_ ql_ => by
        obtain ⟨⟨y0, p0⟩, qs_, rfl⟩ : ∃ p t, qs_ = p :: t := by (cases qs_ with | nil => simp at ql_ | cons p t => exact ⟨p, t, rfl⟩)
        obtain rfl : qs_ = [] := List.length_eq_zero_iff.1 (by simpa using ql_)
        obtain ⟨hr0, _⟩ := qv_
        obtain ⟨o7, ⟨kv7, rfl, hs7, rfl⟩, rfl⟩ := hr0
        exact LStepR.callRF (d := 10) [] gofn109 Lent.nil (fun _ => (.cons (.tmp rfl) .nil)) (cloneVal_ok _ (by rw [V.css_length]; exact hi80)) (.inl rfl)) ?_
    refine OutK.quiet [] rfl rfl rfl (fun qs_ qv_ ql_ => (.q rfl (QW.field_ptr fo26_3 (.tmp rfl) rfl))) ?_
    refine .nil fun qs_ qv_ ql_ => ?_
    obtain ⟨⟨y1, p1⟩, qs_, rfl⟩ : ∃ p t, qs_ = p :: t := by (cases qs_ with | nil => simp at ql_ | cons p t => exact ⟨p, t, rfl⟩)
    simp only [List.length_cons, Nat.add_right_cancel_iff] at ql_
    obtain ⟨⟨y0, p0⟩, qs_, rfl⟩ : ∃ p t, qs_ = p :: t := by (cases qs_ with | nil => simp at ql_ | cons p t => exact ⟨p, t, rfl⟩)
    obtain rfl : qs_ = [] := List.length_eq_zero_iff.1 (by simpa using ql_)
    obtain ⟨hr1, hr0, _⟩ := qv_
    obtain ⟨o7, ⟨kv7, rfl, hs7, rfl⟩, rfl⟩ := hr0
    obtain ⟨o10, ⟨iv10, rfl, hs10, rfl⟩, rfl⟩ := hr1
    refine JL.conv (by (try simp only [stepsO, List.map_cons, List.map_nil, valO, nthO, curO, mrg, List.reverse_cons, List.reverse_nil, List.nil_append, List.cons_append, List.append_nil, List.getElem?_cons_zero, List.getElem?_cons_succ, Option.map_some, Option.getD_some, List.set_cons_zero, List.set_cons_succ, AV.cellsOf, splice_zero, splice_succ, Nat.zero_add, Nat.reduceAdd]); rfl) ?_
    refine JL.store_box 1 ty23 (.tmp rfl) rfl (.tmp rfl) (by first | rfl | assumption) rfl rfl rfl rfl ?_
    refine JL.q rfl rfl rfl (QW.field_ptr fo26_4 (.tmp rfl) rfl) ?_
    refine JL.store_box 1 ty24 (.tmp rfl) rfl (.tmp rfl) (by first | rfl | assumption) rfl rfl rfl rfl ?_
    refine JL.nil ?_
    refine thenQ.n ?_
    refine J.seq ?_
    refine J.seq ?_
    refine J.region_lit ?_
    refine JL.q rfl rfl rfl (QW.field_ptr fo26_4 (.tmp rfl) rfl) ?_
    refine JL.q rfl rfl rfl (QW.load_box1 1 ty24 (.tmp rfl) rfl rfl) ?_
    refine JL.q rfl rfl rfl (QW.len_arr 3 sl24 (.tmp rfl) rfl) ?_
    refine JL.q rfl rfl rfl (QW.move .const) ?_
    refine JL.nil ?_
    refine thenQ.n ?_
    refine J.block ?_
    refine J.reown (Reown.nilGrpE _) ?_
    refine J.loopK (ι := Nat × List (List AV) × List Value × Own) [1, 2, 14, 15] (fun ⟨j, cs, us, o⟩ => [(16, .c (.int .i64 (j : Int)))]) (fun ⟨j, cs, us, o⟩ oo => List.set (List.set oo 3 (.arr iv10 eV (cs ++ V.css fr (is.drop j)))) 4 (o)) (fun ⟨j, cs, us, o⟩ => j ≤ is.length ∧ KidsTr (is.take j) cs us o) (fun ⟨j, cs, us, o⟩ => is.length - j) ⟨0, [], [], .grp []⟩ (⟨Nat.zero_le _, .nil⟩) (Wk.re (.cons rfl (.refl _) (.cons rfl (.refl _) (.cons rfl (.refl _) (.cons rfl (.refl _) (.cons rfl (.refl _) .nil))))) (Reown.refl _) (fun _ h => by first | exact h | simp [h])) ?_
    intro ⟨j, cs, us, o⟩ ⟨hj, hK⟩
    refine J.conv (by (try simp only [stepsO, List.map_cons, List.map_nil, valO, nthO, curO, mrg, List.reverse_cons, List.reverse_nil, List.nil_append, List.cons_append, List.append_nil, List.getElem?_cons_zero, List.getElem?_cons_succ, Option.map_some, Option.getD_some, List.set_cons_zero, List.set_cons_succ, AV.cellsOf, splice_zero, splice_succ, Nat.zero_add, Nat.reduceAdd]); rfl) ?_
    refine J.seq ?_
    refine J.region_lit ?_
    refine JL.q rfl rfl rfl (QW.lss (.tmp rfl) (.tmp rfl)) ?_
    refine JL.nil ?_
    refine thenQ.n ?_
    refine J.seq ?_
    refine J.cond (.tmp rfl) (fun c1 => ?_) (fun c1 => ?_)
    · skip
      have hlt : j < is.length := by simpa [V.css_length] using c1
      have hcl : cs.length = j := by have := hK.h2; rw [List.length_take] at this; omega
      refine J.skip ?_
      refine thenQ.n ?_
      refine J.seq ?_
      refine J.block ?_
      refine J.seq ?_
      refine J.region_lit ?_
      refine JL.q rfl rfl rfl (QW.move (.tmp rfl)) ?_
      refine JL.q rfl rfl rfl (QW.index_arr 3 sl24 ty26 rfl (.tmp rfl) rfl (.tmp rfl) (by first | rfl | omega | (simp; done)) (by simp [V.css_length]; omega) rfl) ?_
      refine JL.q rfl rfl rfl (by first | exact QW.load_gp 3 ty26 (.tmp rfl) rfl (by exact clone_get fr hcl hlt) rfl rfl rfl | exact QW.load_gp (o := 0) 3 ty26 (.tmp rfl) rfl (by exact clone_get fr hcl hlt) rfl rfl rfl | exact QW.load_gp (o := 1) 3 ty26 (.tmp rfl) rfl (by exact clone_get fr hcl hlt) rfl rfl rfl | exact QW.load_gp (o := 2) 3 ty26 (.tmp rfl) rfl (by exact clone_get fr hcl hlt) rfl rfl rfl | exact QW.load_gp 3 ty26 (.tmp rfl) rfl (by exact clone_get fr hcl hlt) rfl (take_full (V.cs_length _ _)) (V.cs_length _ _)) ?_
      refine JL.alloc z26 rfl rfl fun b4 => ?_
      refine JL.q rfl rfl rfl (QW.assign (.tmp rfl)) ?_
      first | refine JL.store_boxF 0 ty26 (.tmp rfl) rfl (.tmp rfl) (by first | rfl | assumption) (rfl) (rfl) rfl ?_ | refine JL.store_boxF 0 ty26 (.tmp rfl) rfl (.tmp rfl) (by first | rfl | assumption) (rfl) (V.cs_length _ _) rfl ?_ | refine JL.store_boxF 0 ty26 (.tmp rfl) rfl (.tmp rfl) (by first | rfl | assumption) (V.cs_length _ _) (rfl) rfl ?_ | refine JL.store_boxF 0 ty26 (.tmp rfl) rfl (.tmp rfl) (by first | rfl | assumption) (V.cs_length _ _) (V.cs_length _ _) rfl ?_ | refine JL.store_box 0 ty26 (.tmp rfl) rfl (.tmp rfl) (by first | rfl | assumption) rfl rfl rfl rfl ?_ | refine JL.store_box 0 ty26 (.tmp rfl) rfl (.tmp rfl) (by first | rfl | assumption) (V.cs_length _ _) rfl rfl rfl ?_
      refine JL.nil ?_
      refine thenQ.n ?_
      refine J.region_outK 5 1 (fun os_ ow_ x_ o_ => match os_ with | [] => (∃ o2_, (CopyR is[j]) x_ o2_ ∧ o_ = mrg [] o2_ ow_) | _ => False) mixed (by kernel_rfl) (by kernel_rfl) (by kernel_rfl) rfl ?_
      refine OutK.quiet [] rfl rfl rfl (fun qs_ qv_ ql_ => (.q rfl (QW.field_ptr fo26_4 (.tmp rfl) rfl))) ?_
      refine OutK.quiet [21] rfl rfl rfl (fun qs_ qv_ ql_ => by
          rcases qs_ with _ | ⟨⟨y0, p0⟩, qs_⟩
          · skip
            exact (.q rfl (QW.load_box1 2 ty24 (.tmp rfl) rfl rfl))
          rcases qs_ with _ | ⟨⟨y1, p1⟩, qs_⟩
          · skip
            obtain ⟨hr0, _⟩ := qv_
            obtain ⟨o25, ⟨kv25, iv25, ok25, oi25, rfl, rfl, hV25⟩, rfl⟩ := hr0
            exact (.q rfl (QW.load_box1 2 ty24 (.tmp rfl) rfl rfl))
          exact absurd ql_ (by simp)) ?_
      refine OutK.quiet [] rfl rfl rfl (fun qs_ qv_ ql_ => (.q rfl (QW.move (.tmp rfl)))) ?_
      refine OutK.quiet [] rfl rfl rfl (fun qs_ qv_ ql_ => by
          rcases qs_ with _ | ⟨⟨y0, p0⟩, qs_⟩
          · skip
            exact (.q rfl (by first | exact QW.load_box 0 ty26 (.tmp rfl) rfl rfl rfl | exact QW.load_box 0 ty26 (.tmp rfl) rfl (take_at (V.cs_length _ _) rfl) (V.cs_length _ _)))
          rcases qs_ with _ | ⟨⟨y1, p1⟩, qs_⟩
          · skip
            obtain ⟨hr0, _⟩ := qv_
            obtain ⟨o25, ⟨kv25, iv25, ok25, oi25, rfl, rfl, hV25⟩, rfl⟩ := hr0
            exact (.q rfl (by first | exact QW.load_box 0 ty26 (.tmp rfl) rfl rfl rfl | exact QW.load_box 0 ty26 (.tmp rfl) rfl (take_at (V.cs_length _ _) rfl) (V.cs_length _ _)))
          exact absurd ql_ (by simp)) ?_
      refine OutK.loud [24] rfl rfl rfl rfl rfl (fun qs_ qv_ ql_ => by
          obtain rfl : qs_ = [] := List.length_eq_zero_iff.1 ql_
          exact LStepR.callRF (d := 25) [] gofn77 Lent.nil (fun _ => (.cons (.tmp rfl) .nil)) (ih Vc.self (hwi _ (List.getElem_mem _)) (V.sz_get hn hlt)) (.inl rfl)) ?_
      refine .nil fun qs_ qv_ ql_ => ?_
      obtain ⟨⟨y0, p0⟩, qs_, rfl⟩ : ∃ p t, qs_ = p :: t := by (cases qs_ with | nil => simp at ql_ | cons p t => exact ⟨p, t, rfl⟩)
      obtain rfl : qs_ = [] := List.length_eq_zero_iff.1 (by simpa using ql_)
      obtain ⟨hr0, _⟩ := qv_
      obtain ⟨o25, ⟨kv25, iv25, ok25, oi25, rfl, rfl, hV25⟩, rfl⟩ := hr0
      refine JL.conv (by (try simp only [stepsO, List.map_cons, List.map_nil, valO, nthO, curO, mrg, List.reverse_cons, List.reverse_nil, List.nil_append, List.cons_append, List.append_nil, List.getElem?_cons_zero, List.getElem?_cons_succ, Option.map_some, Option.getD_some, List.set_cons_zero, List.set_cons_succ, AV.cellsOf, splice_zero, splice_succ, Nat.zero_add, Nat.reduceAdd]); rfl) ?_
      refine JL.q rfl rfl rfl (QW.index_arr 4 sl24 ty26 rfl (.tmp rfl) rfl (.tmp rfl) (by first | rfl | omega | (simp; done)) (by simp [V.css_length]; omega) rfl) ?_
      refine JL.store_gp 4 ty26 (.tmp rfl) rfl (clone_get fr hcl hlt) rfl (.tmp rfl) rfl rfl rfl ((congrArg (List.set _ _) (splice_all (by rw [V.cs_length]; try rfl))).trans (clone_set hcl hlt)) rfl ?_
      refine JL.nil ?_
      refine blkQ.n ?_
      refine thenQ.n ?_
      refine J.region_lit ?_
      refine JL.q rfl rfl rfl (QW.add (.tmp rfl) .const (by first | exact w64n (by first | rfl | omega | (simp; done)) (by omega) | exact w64 (by omega) | rfl)) ?_
      refine JL.q rfl rfl rfl (QW.move (.tmp rfl)) ?_
      refine JL.nil ?_
      refine thenQ.n ?_
      exact ⟨⟨j + 1, cs ++ [is[j].raw kv25 iv25], us ++ is[j].vals kv25 iv25, .grp [o, .grp [ok25, oi25]]⟩, ⟨hlt, by rw [List.take_succ_eq_append_getElem hlt]; exact hK.snoc hV25⟩, by show is.length - (j + 1) < is.length - j; omega, Wk.re (.cons rfl (.refl _) (.cons rfl (.refl _) (.cons rfl (.refl _) (.cons rfl (.refl _) (.cons rfl (.refl _) .nil))))) ((Reown.dropN 1 _ rfl).trans (Reown.cons (Reown.cons (Reown.cons (Reown.cons (Reown.tri _ _ _ _)))))) (fun _ h => by first | exact h | simp [h])⟩
    · skip
      have hge : is.length ≤ j := by simpa [V.css_length] using c1
      refine J.exit ?_
      refine thenQ.x ?_
      refine thenQ.x ?_
      refine blkQ.hit ?_
      refine thenQ.n ?_
      refine J.seq ?_
      refine J.reown (Reown.cons (Reown.cons (Reown.cons (Reown.grp2 _ _ _)))) ?_
      refine J.region_lit ?_
      refine JL.q rfl rfl rfl (by first | exact QW.load_box 1 ty26 (.tmp rfl) rfl rfl rfl | exact QW.load_box 1 ty26 (.tmp rfl) rfl (take_at (V.cs_length _ _) rfl) (V.cs_length _ _)) ?_
      first | refine JL.store_boxF 0 ty26 (.tmp rfl) rfl (.tmp rfl) (by first | rfl | assumption) (rfl) (rfl) rfl ?_ | refine JL.store_boxF 0 ty26 (.tmp rfl) rfl (.tmp rfl) (by first | rfl | assumption) (rfl) (V.cs_length _ _) rfl ?_ | refine JL.store_boxF 0 ty26 (.tmp rfl) rfl (.tmp rfl) (by first | rfl | assumption) (V.cs_length _ _) (rfl) rfl ?_ | refine JL.store_boxF 0 ty26 (.tmp rfl) rfl (.tmp rfl) (by first | rfl | assumption) (V.cs_length _ _) (V.cs_length _ _) rfl ?_ | refine JL.store_box 0 ty26 (.tmp rfl) rfl (.tmp rfl) (by first | rfl | assumption) rfl rfl rfl rfl ?_ | refine JL.store_box 0 ty26 (.tmp rfl) rfl (.tmp rfl) (by first | rfl | assumption) (V.cs_length _ _) rfl rfl rfl ?_
      refine JL.nil ?_
      refine thenQ.n ?_
      refine J.ret ?_
      obtain rfl : j = is.length := by omega
      rw [List.take_length] at hK
      exact ⟨_, selP [.k, .k, .p, .p] _, _, RetEv.one rfl (by first | exact REv.cell 0 ty26 rfl rfl rfl rfl (.refl _) | exact REv.cell 0 ty26 rfl rfl (take_at (V.cs_length _ _) rfl) (V.cs_length _ _) (.refl _)), rfl, sel_perm [.k, .k, .p, .p] _, ⟨_, rfl, _, _, _, _, rfl, rfl, hs7, hs10, keys_tr hk16, by rw [show cs ++ V.css fr (is.drop is.length) = cs by simp [V.css]]; exact hK.tr hi80⟩⟩
theorem clone_ok {v : V} {ys : List AV} {fr : Bool} (hv : Vc fr v ys) (hw : v.wf) : AC Try.prog 77 [] [.agg ys] (RetR (CopyR v)) := clone_n _ hv hw (Nat.le_refl _)
theorem clone_rd {v : V} {ys : List AV} {fr : Bool} (hv : Vc fr v ys) (hw : v.wf) : Fn Try.prog 77 [.agg ys] (.agg (v.cs true)) := .ofCopy (clone_ok hv hw)
end Go.Proofs.Ytkiankpmkglhcaa.J

/- Walks: a value that is spoilt. -/
namespace Go.Proofs.Ytkiankpmkglhcaa.J
open Go Go.RowKit
set_option linter.unusedVariables false
set_option linter.unusedSimpArgs false
set_option maxRecDepth 10000
set_option maxHeartbeats 4000000
end Go.Proofs.Ytkiankpmkglhcaa.J

/- Steps into values: what is found, got and set, as plain data. -/
namespace Go.Proofs.Ytkiankpmkglhcaa.J
open Go Go.RowKit
set_option linter.unusedVariables false
set_option linter.unusedSimpArgs false
structure StT where
  isKey : Bool
  key : Str
  index : Int
  deriving DecidableEq
def eSt : ETy := ⟨3, 32⟩
def StT.cs (s : StT) : List AV := [.c (.bool s.isKey), .c (str s.key), .c (.int .i64 s.index)]
def StT.css (l : List StT) : List (List AV) := l.map StT.cs
theorem StT.css_length (l : List StT) : (StT.css l).length = l.length := by simp [StT.css]
theorem StT.css_getE {l : List StT} {i : Nat} (h : i < l.length) : (StT.css l)[i]? = some l[i].cs := by simp [StT.css, h]
structure StT.wf (s : StT) : Prop where
  k : s.key.length ≤ reach
  i : -9223372036854775808 ≤ s.index ∧ s.index ≤ 9223372036854775807
/-- These cells are the step's. -/
def Sc (s : StT) (ys : List AV) : Prop := ys = s.cs
theorem Sc.self {s : StT} : Sc s s.cs := rfl
theorem Sc.mk {b : Bool} {k : Str} {i : Int} : Sc ⟨b, k, i⟩ [.c (.bool b), .c (str k), .c (.int .i64 i)] := rfl
/-! ### texts in order -/
theorem less_irr : ∀ a : Str, Op.bytesLess a a = false
  | [] => rfl
  | x :: a => by simp [Op.bytesLess, less_irr a]
theorem less_trans : ∀ {a b c : Str}, Op.bytesLess a b = true → Op.bytesLess b c = true → Op.bytesLess a c = true
  | a, [], _, h, _ => by cases a <;> simp [Op.bytesLess] at h
  | [], y :: b, z :: c, _, _ => rfl
  | _, y :: b, [], _, h => by simp [Op.bytesLess] at h
  | x :: a, y :: b, z :: c, h, k => by
    simp only [Op.bytesLess, Bool.or_eq_true, decide_eq_true_eq, Bool.and_eq_true, beq_iff_eq, UInt8.lt_iff_toNat_lt] at h k ⊢
    rcases h with h | ⟨rfl, h⟩
    · rcases k with k | ⟨rfl, k⟩
      · exact .inl (by omega)
      · exact .inl h
    · rcases k with k | ⟨rfl, k⟩
      · exact .inl k
      · exact .inr ⟨rfl, less_trans h k⟩
theorem less_tri (a b : Str) : Op.bytesLess a b = true ∨ a = b ∨ Op.bytesLess b a = true := by
  have := bytesLess_tri a b
  cases h : Op.bytesLess b a with
  | true => exact .inr (.inr rfl)
  | false =>
    rw [h] at this
    simp only [Bool.not_false, Bool.or_eq_true, beq_iff_eq] at this
    exact this.elim .inl fun h => .inr (.inl h)
theorem less_asym {a b : Str} (h : Op.bytesLess a b = true) : Op.bytesLess b a = false := by
  cases k : Op.bytesLess b a with
  | false => rfl
  | true => have := less_trans h k; rw [less_irr] at this; cases this
def Sorted (l : List Str) : Prop := List.Pairwise (fun a b => Op.bytesLess a b = true) l
theorem keysOk_sorted {l : List Str} (h : keysOk l = true) : Sorted l := by
  have hk : ∀ j, j < l.length → keyAt l j = true := fun j hj => List.all_eq_true.1 h j (by simpa using hj)
  rw [Sorted, List.pairwise_iff_getElem]
  intro i j hi hj hij
  induction j with
  | zero => omega
  | succ j ih =>
    have h1 := hk (j + 1) hj
    simp only [keyAt, Bool.and_eq_true, Bool.or_eq_true, beq_iff_eq, Nat.add_sub_cancel] at h1
    have h2 : Op.bytesLess l[j] l[j + 1] = true := by
      have := h1.2.resolve_left (by omega)
      simpa [List.getD, hj, show j < l.length by omega] using this
    by_cases he : i = j
    · subst he; exact h2
    · exact less_trans (ih (by omega) (by omega)) h2
/-- How many of them come ahead of a text. -/
def low : List Str → Str → Nat
  | [], _ => 0
  | k :: r, s => if Op.bytesLess k s then low r s + 1 else 0
theorem low_le : ∀ (l : List Str) (s : Str), low l s ≤ l.length
  | [], _ => Nat.le_refl _
  | k :: r, s => by
    have := low_le r s
    unfold low
    split
    · simp; exact this
    · exact Nat.zero_le _
theorem low_lt : ∀ {l : List Str} {s : Str} {i : Nat} (h : i < l.length), i < low l s → Op.bytesLess l[i] s = true
  | k :: r, s, i, h, hi => by
    unfold low at hi
    split at hi
    · rename_i hk
      cases i with
      | zero => exact hk
      | succ i => exact low_lt (l := r) (by simpa using h) (by omega)
    · omega
theorem low_at : ∀ {l : List Str} {s : Str} (h : low l s < l.length), Op.bytesLess l[low l s] s = false
  | k :: r, s, h => by
    by_cases hk : Op.bytesLess k s = true
    · have e : low (k :: r) s = low r s + 1 := by rw [low, if_pos hk]
      simp only [e, List.getElem_cons_succ]
      exact low_at (by rw [e] at h; simpa using h)
    · have e : low (k :: r) s = 0 := by rw [low, if_neg hk]
      simp only [e, List.getElem_cons_zero]
      simpa using hk
theorem low_ge {l : List Str} {s : Str} (hs : Sorted l) {i : Nat} (h : i < l.length) (hi : low l s ≤ i) : Op.bytesLess l[i] s = false := by
  have h0 := low_at (l := l) (s := s) (by omega)
  by_cases he : low l s = i
  · simp only [he] at h0; exact h0
  · cases hc : Op.bytesLess l[i] s with
    | false => rfl
    | true =>
      have := (List.pairwise_iff_getElem.1 hs) (low l s) i (by omega) h (by omega)
      rw [less_trans this hc] at h0
      cases h0
/-! ### values that may be -/
inductive V.Fine : V → Prop
  | mk {v : V} (h : partOk v = true) (hs : ∀ x ∈ v.items, V.Fine x) : V.Fine v
theorem V.Fine.part {v : V} (h : v.Fine) : partOk v = true := by cases h; assumption
theorem V.Fine.kid {v : V} (h : v.Fine) {x : V} (hx : x ∈ v.items) : x.Fine := by cases h with | mk _ h => exact h x hx
mutual
theorem V.fine_chk : ∀ (v : V) (lev n : Int), (v.chk lev n).1 = 0 → v.Fine
  | .mk k b t ks is, lev, n, h => by
    unfold V.chk at h
    split at h
    · simp at h
    · split at h
      · simp at h
      · split at h
        · simp at h
        · rename_i hp
          exact .mk (by simpa using hp) (V.fine_chks is lev (n + 1) h)
theorem V.fine_chks : ∀ (l : List V) (lev n : Int), (V.chks l lev n).1 = 0 → ∀ x ∈ l, x.Fine
  | [], _, _, _ => fun _ h => by cases h
  | y :: r, lev, n, h => fun x hx => by
    unfold V.chks at h
    split at h
    · rename_i h'; exact absurd h h'
    · rename_i h'
      rcases List.mem_cons.1 hx with e | hx
      · rw [e]; exact V.fine_chk y (lev + 1) n (by simpa using h')
      · exact V.fine_chks r lev _ h x hx
end
theorem V.fine_of {v : V} (h : v.err = 0) : v.Fine := V.fine_chk v 1 0 h
theorem partOk_rec {v : V} (h : partOk v = true) (hk : v.kind = 5) : v.keys.length = v.items.length ∧ keysOk v.keys = true := by
  obtain ⟨k, b, t, ks, is⟩ := v
  simp only [V.kind] at hk
  subst hk
  simp [partOk] at h
  exact ⟨h.1.2, h.2⟩
theorem partOk_len {v : V} (h : partOk v = true) : v.items.length ≤ 32 ∧ v.keys.length ≤ 32 := by
  obtain ⟨k, b, t, ks, is⟩ := v
  unfold partOk at h
  simp only [V.items, V.keys]
  repeat' split at h
  all_goals (simp at h; try grind)
/-! ### steps -/
def V.fnd (v : V) (s : StT) : Nat × Int :=
  if s.isKey = true then (if v.kind = 5 then (low v.keys s.key, if v.keys[low v.keys s.key]? = some s.key then 0 else 71) else (0, 81))
  else if v.kind = 4 then (if s.index < 0 ∨ (v.items.length : Int) ≤ s.index then (0, 82) else (s.index.toNat, 0)) else (0, 81)
theorem V.fnd_lt {v : V} {s : StT} (hv : partOk v = true) (h : (v.fnd s).2 = 0) : (v.fnd s).1 < v.items.length := by
  unfold V.fnd at h ⊢
  split
  · rename_i h1
    rw [if_pos h1] at h
    split
    · rename_i h2
      rw [if_pos h2] at h
      simp only at h ⊢
      split at h
      · rename_i h3
        rw [← (partOk_rec hv h2).1]
        exact (List.getElem?_eq_some_iff.1 h3).1
      · simp at h
    · rename_i h2
      rw [if_neg h2] at h
      simp at h
  · rename_i h1
    rw [if_neg h1] at h
    split
    · rename_i h2
      rw [if_pos h2] at h
      split
      · rename_i h3
        rw [if_pos h3] at h
        simp at h
      · simp only; omega
    · rename_i h2
      rw [if_neg h2] at h
      simp at h
def V.kid (v : V) (i : Nat) : V := v.items.getD i .nil
def V.setAt (v : V) (i : Nat) (x : V) : V := .mk v.kind v.bits v.text v.keys (v.items.set i x)
def V.ins (v : V) (s : StT) (i : Nat) (x : V) : V := .mk v.kind v.bits v.text (if s.isKey = true then v.keys.take i ++ [s.key] ++ v.keys.drop i else v.keys) (v.items.take i ++ [x] ++ v.items.drop i)
/-- A new item, where a step says so. -/
def V.grw (v : V) (s : StT) (i : Nat) (e : Int) : Nat × Int :=
  if e = 71 ∧ keyOk s.key = false then (0, 31) else if e = 82 ∧ s.index = v.items.length then (if 32 ≤ v.items.length then (0, 3) else (v.items.length, 0)) else if e ≠ 71 then (0, e) else if 32 ≤ v.items.length then (0, 3) else (i, 0)
def V.put (v : V) (s : StT) (x : V) : V × Int :=
  if (v.fnd s).2 = 0 then (v.setAt (v.fnd s).1 x, 0) else if (v.grw s (v.fnd s).1 (v.fnd s).2).2 = 0 then (v.ins s (v.grw s (v.fnd s).1 (v.fnd s).2).1 x, 0) else (.nil, (v.grw s (v.fnd s).1 (v.fnd s).2).2)
def V.set : V → List StT → V → V × Int
  | _, [], x => (x, 0)
  | v, [s], x => v.put s x
  | v, s :: t :: r, x => if (v.fnd s).2 ≠ 0 then (.nil, (v.fnd s).2) else if (V.set (v.kid (v.fnd s).1) (t :: r) x).2 ≠ 0 then (.nil, (V.set (v.kid (v.fnd s).1) (t :: r) x).2) else (v.setAt (v.fnd s).1 (V.set (v.kid (v.fnd s).1) (t :: r) x).1, 0)
def V.setv (v : V) (p : List StT) (x : V) : V × Int :=
  if v.err ≠ 0 then (.nil, v.err) else if x.err ≠ 0 then (.nil, x.err) else if (v.set p x).2 ≠ 0 then (.nil, (v.set p x).2) else if (v.set p x).1.err ≠ 0 then (.nil, (v.set p x).1.err) else ((v.set p x).1, 0)
def V.walk : V → List StT → V × Int
  | v, [] => (v, 0)
  | v, s :: r => if (v.fnd s).2 ≠ 0 then (.nil, (v.fnd s).2) else V.walk (v.kid (v.fnd s).1) r
def V.getv (v : V) (p : List StT) : V × Int := if v.err ≠ 0 then (.nil, v.err) else v.walk p
theorem V.kid_mem {v : V} {i : Nat} (h : i < v.items.length) : v.kid i ∈ v.items := by
  unfold V.kid; simp [List.getD, h]
theorem V.kid_eq {v : V} {i : Nat} (h : i < v.items.length) : v.kid i = v.items[i] := by
  unfold V.kid; simp [List.getD, h]
theorem V.wf.kid {v : V} (h : v.wf) {x : V} (hx : x ∈ v.items) : x.wf := by obtain ⟨k, b, t, ks, is⟩ := v; exact h.inv.2.2.2.2.2.2 x hx
theorem V.setAt_wf {v x : V} {i : Nat} (h : v.wf) (hx : x.wf) : (v.setAt i x).wf := by
  obtain ⟨k, b, t, ks, is⟩ := v
  obtain ⟨h1, h2, h3, h4, h5, h6, h7⟩ := h.inv
  exact .mk h1 h2 h3 h4 (by simpa [V.items] using h5) h6 fun y hy => (List.mem_or_eq_of_mem_set hy).elim (h7 y) fun e => e ▸ hx
theorem V.ins_wf {v x : V} {s : StT} {i : Nat} (h : v.wf) (hf : partOk v = true) (hs : s.wf) (hx : x.wf) : (v.ins s i x).wf := by
  obtain ⟨k, b, t, ks, is⟩ := v
  obtain ⟨h1, h2, h3, h4, h5, h6, h7⟩ := h.inv
  obtain ⟨l1, l2⟩ := partOk_len hf
  simp only [V.items, V.keys] at l1 l2
  refine .mk h1 h2 h3 ?_ ?_ ?_ ?_
  · simp only [V.keys]
    split
    · simp only [List.length_append, List.length_take, List.length_drop, List.length_singleton]; unfold reach; omega
    · exact h4
  · simp only [V.items, List.length_append, List.length_take, List.length_drop, List.length_singleton]; unfold reach; omega
  · simp only [V.keys]
    intro z hz
    split at hz
    · simp only [List.mem_append, List.mem_singleton] at hz
      rcases hz with (hz | rfl) | hz
      · exact h6 z (List.mem_of_mem_take hz)
      · exact hs.k
      · exact h6 z (List.mem_of_mem_drop hz)
    · exact h6 z hz
  · simp only [V.items]
    intro z hz
    simp only [List.mem_append, List.mem_singleton] at hz
    rcases hz with (hz | rfl) | hz
    · exact h7 z (List.mem_of_mem_take hz)
    · exact hx
    · exact h7 z (List.mem_of_mem_drop hz)
theorem V.put_wf {v x : V} {s : StT} (h : v.wf) (hf : partOk v = true) (hs : s.wf) (hx : x.wf) : (v.put s x).1.wf := by
  unfold V.put
  split
  · exact V.setAt_wf h hx
  · split
    · exact V.ins_wf h hf hs hx
    · exact V.wf_nil
theorem V.set_wf : ∀ {p : List StT} {v x : V}, v.wf → v.Fine → (∀ s ∈ p, s.wf) → x.wf → (v.set p x).1.wf
  | [], v, x, _, _, _, hx => hx
  | [s], v, x, h, hf, hs, hx => V.put_wf h hf.part (hs s (by simp)) hx
  | s :: t :: r, v, x, h, hf, hs, hx => by
    unfold V.set
    split
    · exact V.wf_nil
    · rename_i he
      have hlt := V.fnd_lt hf.part (by simpa using he)
      split
      · exact V.wf_nil
      · exact V.setAt_wf h (V.set_wf (h.kid (V.kid_mem hlt)) (hf.kid (V.kid_mem hlt)) (fun s hs' => hs s (List.mem_cons_of_mem _ hs')) hx)
end Go.Proofs.Ytkiankpmkglhcaa.J

/- What the inputs of the value laws read as. -/
namespace Go.Proofs.Ytkiankpmkglhcaa.J
open Go Go.RowKit
set_option linter.unusedVariables false
set_option linter.unusedSimpArgs false
set_option maxRecDepth 10000
set_option maxHeartbeats 4000000
theorem StT.rd {H : Type} {enc : TypeId × Value → H} {w : World} : ∀ (fuel : Nat) (cs : List Value) (x : DataW H × List MemPlace), trd enc Try.prog w fuel 48 cs = some x → Fits Try.prog 48 x.1 → ∃ v : StT, v.wf ∧ RdC w cs (v.cs) := by
  intro fuel
  intro cs x h hf
  obtain ⟨xs, n, rfl, rfl, hl, hlen, hg⟩ := DataW.trod_struct Try.underlying48 h
  obtain ⟨y0, y1, y2, rfl⟩ : ∃ y0 y1 y2, xs = [y0, y1, y2] := by
    match xs, hlen with
    | [y0, y1, y2], _ => exact ⟨y0, y1, y2, rfl⟩
  have h0 := hg 0 _ rfl
  obtain ⟨a0, r0⟩ := rd_bool Try.underlying4 h0
  have h1 := hg 1 _ rfl
  obtain ⟨a1, b1, r1⟩ := rd_str Try.underlying9 h1 (Fits.field Try.underlying48 hf (i := 1) rfl rfl)
  have h2 := hg 2 _ rfl
  obtain ⟨a2, b2, r2⟩ := rd_i64 Try.underlying3 h2
  refine ⟨⟨a0, a1, a2⟩, ⟨b1, b2⟩, ?_⟩
  have := (RdC.join r0 (by kernel_rfl) (by kernel_rfl) ((RdC.join r1 (by kernel_rfl) (by kernel_rfl) (RdC.last r2 (hl.trans (by kernel_rfl))))))
  simpa [StT.cs] using this
end Go.Proofs.Ytkiankpmkglhcaa.J

/- The order of values, as plain data. -/
namespace Go.Proofs.Ytkiankpmkglhcaa.J
open Go Go.RowKit
set_option linter.unusedVariables false
set_option linter.unusedSimpArgs false
def cmpI (a b : Int) : Int := if a < b then -1 else if b < a then 1 else 0
def cmpS (a b : Str) : Int := if Op.bytesLess a b then -1 else if Op.bytesLess b a then 1 else 0
def orI (a b : Int) : Int := if a ≠ 0 then a else b
def cmpK : List Str → List Str → Int
  | [], [] => 0
  | [], _ :: _ => -1
  | _ :: _, [] => 1
  | x :: r, y :: s => orI (cmpS x y) (cmpK r s)
def V.numb (k : Int) (b : Nat) : Nat := if k = 2 then orderN b else b
mutual
def V.ord : V → V → Int
  | .mk k b t ks is, .mk k' b' t' ks' is' => orI (cmpI k k') (orI (cmpI (V.numb k b) (V.numb k b')) (orI (cmpS t t') (orI (cmpK ks ks') (V.ords is is'))))
def V.ords : List V → List V → Int
  | [], [] => 0
  | [], _ :: _ => -1
  | _ :: _, [] => 1
  | x :: r, y :: s => orI (x.ord y) (V.ords r s)
end
/-- Three comparisons are of one order. -/
structure Tri (x z w : Int) : Prop where
  e : x = 0 → z = 0 → w = 0
  l : 0 < x → 0 ≤ z → 0 < w
  r : 0 ≤ x → 0 < z → 0 < w
theorem Tri.or {x z w x' z' w' : Int} (h : Tri x z w) (k : Tri x' z' w') : Tri (orI x x') (orI z z') (orI w w') := by
  obtain ⟨e, l, r⟩ := h
  obtain ⟨e', l', r'⟩ := k
  unfold orI
  constructor <;> (intro h1 h2; by_cases hx : x = 0 <;> by_cases hz : z = 0 <;> by_cases hw : w = 0 <;> simp only [hx, hz, hw, ne_eq, not_true_eq_false, not_false_eq_true, if_true, if_false] at h1 h2 ⊢)
  all_goals first | omega | (have := e hx hz; omega) | exact e' h1 h2 | exact l' h1 h2 | exact r' h1 h2 | (have := l (by omega) (by omega); omega) | (have := r (by omega) (by omega); omega) | skip
theorem cmpI_tri (a b d : Int) : Tri (cmpI a b) (cmpI b d) (cmpI a d) := by
  unfold cmpI
  constructor <;> intro h1 h2 <;> (repeat' split at h1) <;> (repeat' split at h2) <;> (repeat' split) <;> omega
theorem cmpI_neg (a b : Int) : cmpI b a = -cmpI a b := by unfold cmpI; (repeat' split) <;> omega
theorem cmpI_zero {a b : Int} : cmpI a b = 0 ↔ a = b := by unfold cmpI; (repeat' split) <;> omega
theorem cmpS_lt {a b : Str} : cmpS a b < 0 ↔ Op.bytesLess a b = true := by
  unfold cmpS
  cases h : Op.bytesLess a b <;> simp
  split <;> omega
theorem cmpS_gt {a b : Str} : 0 < cmpS a b ↔ Op.bytesLess b a = true := by
  unfold cmpS
  cases h : Op.bytesLess a b with
  | true => simp [less_asym h]
  | false => cases k : Op.bytesLess b a <;> simp
theorem cmpS_zero {a b : Str} : cmpS a b = 0 ↔ a = b := by
  constructor
  · intro h
    rcases less_tri a b with k | k | k
    · have := cmpS_lt.2 k; omega
    · exact k
    · have := cmpS_gt.2 k; omega
  · rintro rfl; unfold cmpS; simp [less_irr]
theorem cmpS_neg (a b : Str) : cmpS b a = -cmpS a b := by
  unfold cmpS
  cases h : Op.bytesLess a b with
  | true => simp [less_asym h]
  | false => cases k : Op.bytesLess b a <;> simp
theorem cmpS_ge {a b : Str} (h : 0 ≤ cmpS a b) : a = b ∨ Op.bytesLess b a = true := by
  rcases less_tri a b with k | k | k
  · have := cmpS_lt.2 k; omega
  · exact .inl k
  · exact .inr k
theorem cmpS_tri (a b d : Str) : Tri (cmpS a b) (cmpS b d) (cmpS a d) := by
  constructor
  · intro h1 h2; rw [cmpS_zero] at *; rw [h1, h2]
  · intro h1 h2
    rw [cmpS_gt] at *
    rcases cmpS_ge h2 with rfl | h2
    · exact h1
    · exact less_trans h2 h1
  · intro h1 h2
    rw [cmpS_gt] at *
    rcases cmpS_ge h1 with rfl | h1
    · exact h2
    · exact less_trans h2 h1
theorem cmpK_tri : ∀ a b d : List Str, Tri (cmpK a b) (cmpK b d) (cmpK a d)
  | [], [], [] => by simp only [cmpK]; constructor <;> omega
  | [], [], _ :: _ => by simp only [cmpK]; constructor <;> omega
  | [], _ :: _, [] => by simp only [cmpK]; constructor <;> omega
  | [], x :: r, y :: s => by simp only [cmpK]; constructor <;> omega
  | _ :: _, [], [] => by simp only [cmpK]; constructor <;> omega
  | x :: r, [], y :: s => by simp only [cmpK]; constructor <;> omega
  | x :: r, y :: s, [] => by simp only [cmpK]; constructor <;> omega
  | x :: r, y :: s, z :: t => (cmpS_tri x y z).or (cmpK_tri r s t)
theorem orI_neg (a b : Int) : orI (-a) (-b) = -orI a b := by unfold orI; (repeat' split) <;> omega
theorem orI_zero {a b : Int} : orI a b = 0 ↔ a = 0 ∧ b = 0 := by unfold orI; split <;> omega
theorem cmpK_neg : ∀ a b : List Str, cmpK b a = -cmpK a b
  | [], [] => rfl
  | [], _ :: _ => rfl
  | _ :: _, [] => rfl
  | x :: r, y :: s => by simp only [cmpK]; rw [cmpS_neg, cmpK_neg r s, orI_neg]
theorem cmpK_zero : ∀ {a b : List Str}, cmpK a b = 0 ↔ a = b
  | [], [] => by simp [cmpK]
  | [], _ :: _ => by simp [cmpK]
  | _ :: _, [] => by simp [cmpK]
  | x :: r, y :: s => by simp only [cmpK, orI_zero, cmpS_zero, cmpK_zero, List.cons.injEq]
theorem kind_tri {k k' k'' : Int} (b b' b'' : Nat) (x z w : Int) (h : Tri x z w) : Tri (orI (cmpI k k') (orI (cmpI (V.numb k b) (V.numb k b')) x)) (orI (cmpI k' k'') (orI (cmpI (V.numb k' b') (V.numb k' b'')) z)) (orI (cmpI k k'') (orI (cmpI (V.numb k b) (V.numb k b'')) w)) := by
  by_cases h1 : k = k'
  · by_cases h2 : k' = k''
    · subst h1 h2
      exact (cmpI_tri _ _ _).or ((cmpI_tri _ _ _).or h)
    · subst h1
      have h3 : cmpI k k = 0 := cmpI_zero.2 rfl
      have h4 : cmpI k k'' ≠ 0 := fun h => h2 (cmpI_zero.1 h)
      simp only [orI, h3, h4, ne_eq, not_true_eq_false, not_false_eq_true, if_true, if_false]
      constructor <;> (intro g1 g2; omega)
  · have h4 : cmpI k k' ≠ 0 := fun h => h1 (cmpI_zero.1 h)
    by_cases h2 : k' = k''
    · subst h2
      have h3 : cmpI k' k' = 0 := cmpI_zero.2 rfl
      simp only [orI, h3, h4, ne_eq, not_true_eq_false, not_false_eq_true, if_true, if_false]
      constructor <;> (intro g1 g2; omega)
    · have h5 : cmpI k' k'' ≠ 0 := fun h => h2 (cmpI_zero.1 h)
      have := cmpI_tri k k' k''
      simp only [orI, h4, h5, ne_eq, not_false_eq_true, if_true]
      constructor
      · intro g1 g2; exact absurd g1 h4
      · intro g1 g2; have := this.l g1 g2; rw [if_pos (by omega)]; exact this
      · intro g1 g2; have := this.r g1 g2; rw [if_pos (by omega)]; exact this
mutual
theorem V.ord_tri : ∀ a b d : V, Tri (a.ord b) (b.ord d) (a.ord d)
  | .mk k b t ks is, .mk k' b' t' ks' is', .mk k'' b'' t'' ks'' is'' => by
    simp only [V.ord]
    exact kind_tri b b' b'' _ _ _ ((cmpS_tri t t' t'').or ((cmpK_tri ks ks' ks'').or (V.ords_tri is is' is'')))
theorem V.ords_tri : ∀ a b d : List V, Tri (V.ords a b) (V.ords b d) (V.ords a d)
  | [], [], [] => by simp only [V.ords]; constructor <;> omega
  | [], [], _ :: _ => by simp only [V.ords]; constructor <;> omega
  | [], _ :: _, [] => by simp only [V.ords]; constructor <;> omega
  | [], x :: r, y :: s => by simp only [V.ords]; constructor <;> omega
  | _ :: _, [], [] => by simp only [V.ords]; constructor <;> omega
  | x :: r, [], y :: s => by simp only [V.ords]; constructor <;> omega
  | x :: r, y :: s, [] => by simp only [V.ords]; constructor <;> omega
  | x :: r, y :: s, z :: t => by simp only [V.ords]; exact (V.ord_tri x y z).or (V.ords_tri r s t)
end
theorem numb_neg (k k' : Int) (b b' : Nat) (x : Int) : orI (cmpI k' k) (orI (cmpI (V.numb k' b') (V.numb k' b)) (-x)) = -orI (cmpI k k') (orI (cmpI (V.numb k b) (V.numb k b')) x) := by
  by_cases h : k = k'
  · subst h
    have h0 : cmpI k k = 0 := cmpI_zero.2 rfl
    rw [cmpI_neg (V.numb k b), orI_neg]
    simp only [orI, h0, ne_eq, not_true_eq_false, if_false]
  · have h4 : cmpI k k' ≠ 0 := fun h' => h (cmpI_zero.1 h')
    rw [cmpI_neg k k']
    unfold orI
    rw [if_pos h4, if_pos (by omega)]
mutual
theorem V.ord_neg : ∀ a b : V, b.ord a = -a.ord b
  | .mk k b t ks is, .mk k' b' t' ks' is' => by
    simp only [V.ord]
    rw [cmpS_neg t t', cmpK_neg ks ks', V.ords_neg is is', orI_neg, orI_neg, numb_neg]
theorem V.ords_neg : ∀ a b : List V, V.ords b a = -V.ords a b
  | [], [] => rfl
  | [], _ :: _ => rfl
  | _ :: _, [] => rfl
  | x :: r, y :: s => by simp only [V.ords]; rw [V.ord_neg x y, V.ords_neg r s, orI_neg]
end
theorem order_can {a b : Nat} (ha : a < 2 ^ 64) (hb : b < 2 ^ 64) (ca : canonN a = a) (cb : canonN b = b) (h : orderN a = orderN b) : a = b := by
  unfold canonN at ca cb
  unfold orderN at h
  have o1 : isNan oneNan = true := by decide
  cases h1 : isNan a <;> cases h2 : isNan b <;> simp only [h1, h2, if_true, if_false, Bool.false_eq_true] at ca cb h
  · rw [isNan_eq] at h1 h2; simp at h1 h2
    unfold rung infR at *
    split at h <;> split at h <;> omega
  · rw [isNan_eq] at h1; simp at h1
    unfold rung infR at *
    split at h <;> omega
  · rw [isNan_eq] at h2; simp at h2
    unfold rung infR at *
    split at h <;> omega
  · rw [← ca, ← cb]
theorem numb_can {v u : V} (hv : partOk v = true) (hu : partOk u = true) (hw : v.bits < 2 ^ 64) (hwu : u.bits < 2 ^ 64) (hk : v.kind = u.kind) (h : V.numb v.kind v.bits = V.numb v.kind u.bits) : v.bits = u.bits := by
  unfold V.numb at h
  split at h
  · rename_i h2
    obtain ⟨k, b, t, ks, is⟩ := v
    obtain ⟨k', b', t', ks', is'⟩ := u
    simp only [V.kind, V.bits] at *
    subst hk h2
    simp [partOk] at hv hu
    exact order_can hw hwu hv.1.1.1 hu.1.1.1 h
  · exact h
mutual
theorem V.ord_zero : ∀ {a b : V}, a.Fine → b.Fine → a.wf → b.wf → (a.ord b = 0 ↔ a = b)
  | .mk k b t ks is, .mk k' b' t' ks' is', hf, hg, hw, hx => by
    simp only [V.ord, orI_zero, cmpI_zero, cmpS_zero, cmpK_zero, V.mk.injEq]
    have hr := V.ords_zero (a := is) (b := is') (fun x h => hf.kid h) (fun x h => hg.kid h) (fun x h => hw.kid h) (fun x h => hx.kid h)
    rw [hr]
    constructor
    · rintro ⟨rfl, h2, h3⟩
      exact ⟨rfl, numb_can (v := .mk k b t ks is) (u := .mk k b' t' ks' is') hf.part hg.part hw.inv.2.1 hx.inv.2.1 rfl (by simp only [V.kind, V.bits]; omega), h3⟩
    · rintro ⟨rfl, rfl, h3⟩
      exact ⟨rfl, rfl, h3⟩
theorem V.ords_zero : ∀ {a b : List V}, (∀ x ∈ a, x.Fine) → (∀ x ∈ b, x.Fine) → (∀ x ∈ a, x.wf) → (∀ x ∈ b, x.wf) → (V.ords a b = 0 ↔ a = b)
  | [], [], _, _, _, _ => by simp [V.ords]
  | [], _ :: _, _, _, _, _ => by simp [V.ords]
  | _ :: _, [], _, _, _, _ => by simp [V.ords]
  | x :: r, y :: s, h1, h2, h3, h4 => by
    simp only [V.ords, orI_zero, List.cons.injEq]
    have g1 := V.ord_zero (a := x) (b := y) (h1 x (by simp)) (h2 y (by simp)) (h3 x (by simp)) (h4 y (by simp))
    have g2 := V.ords_zero (a := r) (b := s) (fun z h => h1 z (by simp [h])) (fun z h => h2 z (by simp [h])) (fun z h => h3 z (by simp [h])) (fun z h => h4 z (by simp [h]))
    rw [g1, g2]
end
def V.cmp (a b : V) : Int × Int := if a.err ≠ 0 then (0, a.err) else if b.err ≠ 0 then (0, b.err) else (a.ord b, 0)
def V.one (a b : V) : Bool := (a.cmp b).1 == 0 && (a.cmp b).2 == 0
end Go.Proofs.Ytkiankpmkglhcaa.J

/- Regions that draw their order, with allocations that hang on nothing among their operations. -/
namespace Go.Proofs.Ytkiankpmkglhcaa.J
open Go Go.RowKit
set_option linter.unusedVariables false
set_option linter.unusedSimpArgs false
/-- Allocations: their places in the region, their slots, the cells of a new one. -/
abbrev Al := List (Nat × Nat × List AV)
def ExR (ex : List Own) (R : List Own → AV → List Own → Prop) (ow : List Own) : List Own → AV → List Own → Prop := fun _ x o' => ∃ o1, o'.Perm (o1 ++ ex) ∧ R ow x o1
/-- An allocation, unguarded. -/
def AllocOp (P : Program) (o : Oper) (d : Nat) (z : List AV) : Prop :=
  ∃ t ty pos af vs, o = ⟨some d, .alloc t, ty, pos, af, none⟩ ∧ zeroCells P t = some vs ∧ vs.all (·.oneCell') = true ∧ z = vs.map AV.c
theorem AllocOp.dst {P : Program} {o : Oper} {d : Nat} {z : List AV} (h : AllocOp P o d z) : o.dst = some d := by
  obtain ⟨t, ty, pos, af, vs, rfl, _⟩ := h; rfl
theorem AllocOp.guard {P : Program} {o : Oper} {d : Nat} {z : List AV} (h : AllocOp P o d z) : o.guard = none := by
  obtain ⟨t, ty, pos, af, vs, rfl, _⟩ := h; rfl
theorem AllocOp.mk {P : Program} {t : TypeId} {ty : TypeId} {pos : String} {af : Array Edge} {d : Nat} {vs : List Value} (hz : zeroCells P t = some vs) (h1 : vs.all (·.oneCell') = true) : AllocOp P ⟨some d, .alloc t, ty, pos, af, none⟩ d (vs.map AV.c) := ⟨t, ty, pos, af, vs, rfl, hz, h1, rfl⟩
theorem AllocOp.run {P : Program} {E : Ent} {o : Oper} {d : Nat} {z : List AV} (h : AllocOp P o d z) {n : Nat} {env : List (Nat × AV)} {own ex : List Own} {F : List (Value × AV)} {D : List Deferred} {A : Foot} {a : Act} {w : World} {Qx : Exit → Act → World → Prop}
    (hA : SatA E A ⟨n, env, own ++ ex, F, D⟩ a w) (K : Act → World → Prop)
    (hK : ∀ b w', Frm w A w' A → SatA E A ⟨n, env, .box b z :: (own ++ ex), F, D⟩ a w' → K (a.put o.dst (.pointer (some ⟨b, 0, none⟩))) w') : o.wpIn (fen E.rd) 0 P a w K Qx := by
  obtain ⟨t, ty, pos, af, vs, rfl, hz, h1, rfl⟩ := h
  refine wpR (by intro c h; cases h) ?_
  unfold Oper.wp
  obtain ⟨i, zv, h2, h3, h4⟩ : ∃ i zv, P.info? t = some i ∧ i.zero = some zv ∧ zv.cells.toList = vs := by
    unfold zeroCells at hz
    cases hi : P.info? t with
    | none => rw [hi] at hz; cases hz
    | some i =>
      rw [hi] at hz
      cases hzz : i.zero with
      | none => simp [hzz] at hz
      | some zv => exact ⟨i, zv, rfl, hzz, by simpa [hzz] using hz⟩
  have hr : (execOp a.eval ⟨some d, .alloc t, ty, pos, af, none⟩).run P w = .ok (.value (.pointer (some ⟨w.heap.size, 0, none⟩))) (World.pushed w (.cells vs.toArray t)) := by
    subst h4
    simp [execOp, Instr.alloc, zeroValue, run_typeInfo h2, h3, newVar, newRow, World.pushed]
  rw [hr, Oper.upon_value]
  have hs := hA.step (.push _ _ _) (fun _ _ h => h) (hA.hp.push_box (us := vs.toArray) (t := t) hA.keep.size (by simp) (.const h1))
  refine hK w.heap.size _ (fun v x hx => hx.move (fun _ _ h _ => h) (fun fr b hb _ => (Keep.push [] _ _).block b (hA.hp.lt fr b hb) (by simp))) hs
inductive AnyA (P : Program) (E : Ent) (Q : Exit → St → Prop) (ops : Array Oper) (n : Nat) (env : List (Nat × AV)) (own : List Own) (R : Outs → List Own → AV → List Own → Prop) (M : Nat) (F : List (Value × AV)) (D : List Deferred) : Nat → Nat → Nat → List Oper → List Slot → List Slot → List (Option Nat) → Al → Prop
  | nil (i p : Nat) (don : List Slot) : AnyA P E Q ops n env own R M F D i M p [] don don [] []
  | quiet {i j p : Nat} {o : Oper} {os : List Oper} {don all : List Slot} {lv : List (Option Nat)} {ds : Al} {d : Nat} {x : AV} {env' : List (Nat × AV)} (hd : o.dst = some d) (hn : Nat.blt d n = true) (he : EnvOkR o don env env')
      (hs : ∀ os' ex, vdO own R os' → os'.length ≤ M → Step P E ops ⟨n, env', curO own os' ++ ex, F, D⟩ o x) (h : AnyA P E Q ops n env own R M F D (i + 1) j p os (don ++ [(d, .inl x)]) all lv ds) : AnyA P E Q ops n env own R M F D i j p (o :: os) don all (none :: lv) ds
  | alloc {i j p : Nat} {o : Oper} {os : List Oper} {don all : List Slot} {lv : List (Option Nat)} {ds : Al} {d : Nat} {z : List AV} (ha : AllocOp P o d z) (hn : Nat.blt d n = true)
      (h : AnyA P E Q ops n env own R M F D (i + 1) j p os (don ++ [(n + i, .inl (.c undef))]) all lv ds) : AnyA P E Q ops n env own R M F D i j p (o :: os) don all (none :: lv) ((i, d, z) :: ds)
  | loud {i j p : Nat} {o : Oper} {os : List Oper} {don all : List Slot} {lv : List (Option Nat)} {ds : Al} {env' : Outs → List (Nat × AV)} {s : Nat} (hd : (o.dst = none ∧ s = n + i ∧ ∀ os ow x o', R os ow x o' → os.length = j → x = .c undef) ∨ (o.dst = some s ∧ s < n)) (hg : o.guard = none) (he : ∀ os', os'.length = j → EnvOkO o don env (env' os') os') (hp : (Nat.beq j 0 || depsOk o [p]) = true)
      (hs : ∀ os' ex, vdO own R os' → os'.length = j → LStepR P E Q ⟨n, env' os', curO own os' ++ ex, F, D⟩ (ExR ex (R os') (curO own os')) o) (h : AnyA P E Q ops n env own R M F D (i + 1) (j + 1) i os (don ++ [(s, .inr (j, id))]) all lv ds) : AnyA P E Q ops n env own R M F D i j p (o :: os) don all (some j :: lv) ds
  | dep {i j p : Nat} {o : Oper} {os : List Oper} {don all : List Slot} {lv : List (Option Nat)} {ds : Al} {d q i' s' : Nat} {g g' : AV → AV} {env' : AV → List (Nat × AV)} (hd : o.dst = some d) (hn : Nat.blt d n = true) (hi' : depsOk o [i'] = true) (hq : don[i']? = some (s', .inr (q, g')))
      (he : ∀ os', EnvOkO o don env (env' (nthO os' q)) os') (hs : ∀ y own', (∃ hs o', hs.length = q ∧ vdO own R hs ∧ R hs (curO own hs) y o') → Step P E ops ⟨n, env' y, own', F, D⟩ o (g y))
      (h : AnyA P E Q ops n env own R M F D (i + 1) j p os (don ++ [(d, .inr (q, g))]) all lv ds) : AnyA P E Q ops n env own R M F D i j p (o :: os) don all (none :: lv) ds
section
variable {P : Program} {E : Ent} {Q : Exit → St → Prop} {n : Nat} {env : List (Nat × AV)} {own : List Own} {R : Outs → List Own → AV → List Own → Prop} {M : Nat} {F : List (Value × AV)} {D : List Deferred} {ops : Array Oper}
theorem AnyA.get {i j p : Nat} {os : List Oper} {don all : List Slot} {lv : List (Option Nat)} {ds : Al} (h : AnyA P E Q ops n env own R M F D i j p os don all lv ds) (hi : don.length = i) :
    (∃ r, all = don ++ r) ∧ all.length = don.length + os.length ∧ lv.length = os.length ∧ j ≤ M ∧
    (∀ (k q : Nat), lv[k]? = some (some q) → j ≤ q ∧ q < M) ∧
    (∀ (k k' q : Nat), lv[k]? = some (some q) → lv[k']? = some (some q) → k = k') ∧
    (∀ q, j ≤ q → q < M → ∃ k : Nat, lv[k]? = some (some q)) ∧
    (∀ p ∈ ds, i ≤ p.1 ∧ p.1 < i + os.length) ∧ (ds.map (·.1)).Nodup ∧
    ∀ k o, os[k]? = some o →
      (lv[k]? = some none ∧ ∃ d x env', all[i + k]? = some (d, .inl x) ∧ o.dst = some d ∧ d < n ∧ EnvOkR o (all.take (i + k)) env env' ∧ (∀ p ∈ ds, p.1 ≠ i + k) ∧ ∀ os' ex, vdO own R os' → os'.length ≤ M → Step P E ops ⟨n, env', curO own os' ++ ex, F, D⟩ o x) ∨
      (lv[k]? = some none ∧ all[i + k]? = some (n + (i + k), .inl (.c undef)) ∧ ∃ d z, (i + k, d, z) ∈ ds ∧ d < n ∧ AllocOp P o d z) ∨
      (lv[k]? = some none ∧ ∃ (d q i' s' : Nat) (g g' : AV → AV) (env' : AV → List (Nat × AV)), all[i + k]? = some (d, .inr (q, g)) ∧ o.dst = some d ∧ d < n ∧ depsOk o [i'] = true ∧ (all.take (i + k))[i']? = some (s', .inr (q, g')) ∧ (∀ os', EnvOkO o (all.take (i + k)) env (env' (nthO os' q)) os') ∧ (∀ p ∈ ds, p.1 ≠ i + k) ∧
        ∀ y own', (∃ hs o', hs.length = q ∧ vdO own R hs ∧ R hs (curO own hs) y o') → Step P E ops ⟨n, env' y, own', F, D⟩ o (g y)) ∨
      (∃ (q : Nat) (env' : Outs → List (Nat × AV)) (s : Nat), lv[k]? = some (some q) ∧ all[i + k]? = some (s, .inr (q, id)) ∧ ((o.dst = none ∧ s = n + (i + k) ∧ ∀ os ow x o', R os ow x o' → os.length = q → x = .c undef) ∨ (o.dst = some s ∧ s < n)) ∧ o.guard = none ∧ (∀ os', os'.length = q → EnvOkO o (all.take (i + k)) env (env' os') os') ∧ (∀ p ∈ ds, p.1 ≠ i + k) ∧ (∀ os' ex, vdO own R os' → os'.length = q → LStepR P E Q ⟨n, env' os', curO own os' ++ ex, F, D⟩ (ExR ex (R os') (curO own os')) o) ∧
        (q = j → j = 0 ∨ depsOk o [p] = true) ∧ (j < q → ∃ k', lv[k']? = some (some (q - 1)) ∧ depsOk o [i + k'] = true)) := by
  induction h with
  | nil i p don => exact ⟨⟨[], by simp⟩, by simp, rfl, Nat.le_refl _, fun k q h => by simp at h, fun k k' q h => by simp at h, fun q h1 h2 => by omega, (fun p h => by cases h), List.nodup_nil, fun k o h => by simp at h⟩
  | quiet hd hn hds hs _ ih =>
    rename_i i j p o os don all lv ds d x env' _
    obtain ⟨⟨r, hr⟩, hl, hlv, hjM, hq, hinj, hsur, hdb, hdn', hk⟩ := ih (by simp [hi])
    refine ⟨⟨(d, .inl x) :: r, by rw [hr]; simp⟩, by simp at hl ⊢; omega, by simp [hlv], hjM, fun k q hkq => ?_, fun k k' q h1 h2 => ?_, fun q h1 h2 => (by obtain ⟨k, hk'⟩ := hsur q h1 h2; exact ⟨k + 1, by simpa using hk'⟩), (fun p hp => by have := hdb p hp; simp only [List.length_cons]; omega), hdn', fun k o' ho' => ?_⟩
    · cases k with
      | zero => simp at hkq
      | succ k => exact hq k q (by simpa using hkq)
    · cases k with
      | zero => simp at h1
      | succ k =>
        cases k' with
        | zero => simp at h2
        | succ k' => rw [hinj k k' q (by simpa using h1) (by simpa using h2)]
    · cases k with
      | zero =>
        simp at ho'; subst ho'
        have : all.take (i + 0) = don := by rw [hr, ← hi]; simp
        exact .inl ⟨by simp, d, x, env', by rw [hr, ← hi]; simp, hd, blt_lt hn, by rw [this]; exact hds, (fun p hp => by have := hdb p hp; omega), hs⟩
      | succ k =>
        have := hk k o' (by simpa using ho')
        rw [show i + (k + 1) = i + 1 + k by omega]
        rcases this with ⟨h1, h2⟩ | ⟨h1, h2⟩ | ⟨h1, h2⟩ | ⟨q, ds', s', h1, h2, h3, h4, h5, h6, h6', h7, h8⟩
        · exact .inl ⟨by simpa using h1, h2⟩
        · exact .inr (.inl ⟨by simpa using h1, h2⟩)
        · exact .inr (.inr (.inl ⟨by simpa using h1, h2⟩))
        · refine .inr (.inr (.inr ⟨q, ds', s', by simpa using h1, h2, h3, h4, h5, h6, h6', h7, fun hlt => ?_⟩))
          obtain ⟨k', hk', hd'⟩ := h8 hlt
          exact ⟨k' + 1, by simpa using hk', by rw [show i + (k' + 1) = i + 1 + k' by omega]; exact hd'⟩
  | alloc ha hn _ ih =>
    rename_i i j p o os don all lv ds d z _
    obtain ⟨⟨r, hr⟩, hl, hlv, hjM, hq, hinj, hsur, hdb, hdn', hk⟩ := ih (by simp [hi])
    refine ⟨⟨(n + i, .inl (.c undef)) :: r, by rw [hr]; simp⟩, by simp at hl ⊢; omega, by simp [hlv], hjM, fun k q hkq => ?_, fun k k' q h1 h2 => ?_, fun q h1 h2 => (by obtain ⟨k, hk'⟩ := hsur q h1 h2; exact ⟨k + 1, by simpa using hk'⟩), (fun p hp => by
      rcases List.mem_cons.1 hp with rfl | hp
      · simp
      · have := hdb p hp; simp only [List.length_cons]; omega), (by
      rw [List.map_cons, List.nodup_cons]
      refine ⟨fun hm => ?_, hdn'⟩
      obtain ⟨p, hp, he⟩ := List.mem_map.1 hm
      have := hdb p hp
      simp only at he; omega), fun k o' ho' => ?_⟩
    · cases k with
      | zero => simp at hkq
      | succ k => exact hq k q (by simpa using hkq)
    · cases k with
      | zero => simp at h1
      | succ k =>
        cases k' with
        | zero => simp at h2
        | succ k' => rw [hinj k k' q (by simpa using h1) (by simpa using h2)]
    · cases k with
      | zero =>
        simp at ho'; subst ho'
        exact .inr (.inl ⟨by simp, by rw [hr, ← hi]; simp, d, z, by simp, blt_lt hn, ha⟩)
      | succ k =>
        have := hk k o' (by simpa using ho')
        rw [show i + (k + 1) = i + 1 + k by omega]
        rcases this with ⟨h1, h2⟩ | ⟨h1, h2⟩ | ⟨h1, h2⟩ | ⟨q, ds', s', h1, h2, h3, h4, h5, h6, h6', h7, h8⟩
        · obtain ⟨d', x', env', g1, g2, g3, g4, g5, g6⟩ := h2
          refine .inl ⟨by simpa using h1, d', x', env', g1, g2, g3, g4, (fun p hp => ?_), g6⟩
          rcases List.mem_cons.1 hp with rfl | hp
          · simp only; omega
          · exact g5 p hp
        · obtain ⟨g1, d', z', g2, g3⟩ := h2
          exact .inr (.inl ⟨by simpa using h1, g1, d', z', List.mem_cons_of_mem _ g2, g3⟩)
        · obtain ⟨d', q', i', s', g, g', env', k1, k2, k3, k4, k5, k6, k7, k8⟩ := h2
          refine .inr (.inr (.inl ⟨by simpa using h1, d', q', i', s', g, g', env', k1, k2, k3, k4, k5, k6, (fun p hp => ?_), k8⟩))
          rcases List.mem_cons.1 hp with rfl | hp
          · simp only; omega
          · exact k7 p hp
        · refine .inr (.inr (.inr ⟨q, ds', s', by simpa using h1, h2, h3, h4, h5, (fun p hp => (by
            rcases List.mem_cons.1 hp with rfl | hp
            · simp only; omega
            · exact h6 p hp)), h6', h7, fun hlt => ?_⟩))
          obtain ⟨k', hk', hd'⟩ := h8 hlt
          exact ⟨k' + 1, by simpa using hk', by rw [show i + (k' + 1) = i + 1 + k' by omega]; exact hd'⟩
  | loud hd hg hds hp hs _ ih =>
    rename_i i j p o os don all lv ds env' s _
    obtain ⟨⟨r, hr⟩, hl, hlv, hjM, hq, hinj, hsur, hdb, hdn', hk⟩ := ih (by simp [hi])
    refine ⟨⟨(s, .inr (j, id)) :: r, by rw [hr]; simp⟩, by simp at hl ⊢; omega, by simp [hlv], by omega, fun k q hkq => ?_, fun k k' q h1 h2 => ?_, fun q h1 h2 => (by
      by_cases he : q = j
      · exact ⟨0, by simp [he]⟩
      · obtain ⟨k, hk'⟩ := hsur q (by omega) h2; exact ⟨k + 1, by simpa using hk'⟩), (fun p hp => by have := hdb p hp; simp only [List.length_cons]; omega), hdn', fun k o' ho' => ?_⟩
    · cases k with
      | zero => simp at hkq; omega
      | succ k => have := hq k q (by simpa using hkq); omega
    · cases k with
      | zero =>
        cases k' with
        | zero => rfl
        | succ k' => simp at h1 h2; have := hq k' q h2; omega
      | succ k =>
        cases k' with
        | zero => simp at h1 h2; have := hq k q h1; omega
        | succ k' => rw [hinj k k' q (by simpa using h1) (by simpa using h2)]
    · cases k with
      | zero =>
        simp at ho'; subst ho'
        have : all.take (i + 0) = don := by rw [hr, ← hi]; simp
        refine .inr (.inr (.inr ⟨j, env', s, by simp, by rw [hr, ← hi]; simp, by simpa using hd, hg, by rw [this]; exact hds, (fun p hp => by have := hdb p hp; omega), hs, fun _ => ?_, fun h => by omega⟩))
        · simp only [Bool.or_eq_true] at hp
          exact hp.imp Nat.eq_of_beq_eq_true id
      | succ k =>
        have := hk k o' (by simpa using ho')
        rw [show i + (k + 1) = i + 1 + k by omega]
        rcases this with ⟨h1, h2⟩ | ⟨h1, h2⟩ | ⟨h1, h2⟩ | ⟨q, ds', s', h1, h2, h3, h4, h5, h6, h6', h7, h8⟩
        · exact .inl ⟨by simpa using h1, h2⟩
        · exact .inr (.inl ⟨by simpa using h1, h2⟩)
        · exact .inr (.inr (.inl ⟨by simpa using h1, h2⟩))
        · have hjq := (hq k q h1).1
          refine .inr (.inr (.inr ⟨q, ds', s', by simpa using h1, h2, h3, h4, h5, h6, h6', fun h => by omega, fun hlt => ?_⟩))
          by_cases he : q = j + 1
          · refine ⟨0, by simp [he], ?_⟩
            rcases h7 he with h7 | h7
            · omega
            · simpa using h7
          · obtain ⟨k', hk', hd'⟩ := h8 (by omega)
            exact ⟨k' + 1, by simpa using hk', by rw [show i + (k' + 1) = i + 1 + k' by omega]; exact hd'⟩
  | dep hd hn hi' hq' he hs _ ih =>
    rename_i i j p o os don all lv ds d q i' s' g g' env' _
    obtain ⟨⟨r, hr⟩, hl, hlv, hjM, hq, hinj, hsur, hdb, hdn', hk⟩ := ih (by simp [hi])
    refine ⟨⟨(d, .inr (q, g)) :: r, by rw [hr]; simp⟩, by simp at hl ⊢; omega, by simp [hlv], hjM, fun k q hkq => ?_, fun k k' q h1 h2 => ?_, fun q h1 h2 => (by obtain ⟨k, hk'⟩ := hsur q h1 h2; exact ⟨k + 1, by simpa using hk'⟩), (fun p hp => by have := hdb p hp; simp only [List.length_cons]; omega), hdn', fun k o' ho' => ?_⟩
    · cases k with
      | zero => simp at hkq
      | succ k => exact hq k q (by simpa using hkq)
    · cases k with
      | zero => simp at h1
      | succ k =>
        cases k' with
        | zero => simp at h2
        | succ k' => rw [hinj k k' q (by simpa using h1) (by simpa using h2)]
    · cases k with
      | zero =>
        simp at ho'; subst ho'
        have : all.take (i + 0) = don := by rw [hr, ← hi]; simp
        exact .inr (.inr (.inl ⟨by simp, d, q, i', s', g, g', env', by rw [hr, ← hi]; simp, hd, blt_lt hn, hi', by rw [this]; exact hq', by rw [this]; exact he, (fun p hp => by have := hdb p hp; omega), hs⟩))
      | succ k =>
        have := hk k o' (by simpa using ho')
        rw [show i + (k + 1) = i + 1 + k by omega]
        rcases this with ⟨h1, h2⟩ | ⟨h1, h2⟩ | ⟨h1, h2⟩ | ⟨q, ds', s', h1, h2, h3, h4, h5, h6, h6', h7, h8⟩
        · exact .inl ⟨by simpa using h1, h2⟩
        · exact .inr (.inl ⟨by simpa using h1, h2⟩)
        · exact .inr (.inr (.inl ⟨by simpa using h1, h2⟩))
        · refine .inr (.inr (.inr ⟨q, ds', s', by simpa using h1, h2, h3, h4, h5, h6, h6', h7, fun hlt => ?_⟩))
          obtain ⟨k', hk', hd'⟩ := h8 hlt
          exact ⟨k' + 1, by simpa using hk', by rw [show i + (k' + 1) = i + 1 + k' by omega]; exact hd'⟩
end
section
variable {P : Program} {E : Ent} {Q : Exit → St → Prop} {n : Nat} {env : List (Nat × AV)} {own : List Own} {R : Outs → List Own → AV → List Own → Prop} {M : Nat} {F : List (Value × AV)} {D : List Deferred} {ops : Array Oper}
def OutA (P : Program) (E : Ent) (Q : Exit → St → Prop) (ops : Array Oper) (n : Nat) (env : List (Nat × AV)) (own : List Own) (R : Outs → List Own → AV → List Own → Prop) (M : Nat) (F : List (Value × AV)) (D : List Deferred) (i j p : Nat) (os : List Oper) (don : List Slot) (da : Al) (K : List Slot → Al → Prop) : Prop :=
  i = don.length → ∃ all lv ds, AnyA P E Q ops n env own R M F D i j p os don.reverse all lv ds ∧ K all.reverse (da ++ ds)
variable {i j p : Nat} {da : Al} {K : List Slot → Al → Prop}
theorem OutA.nil {don : List Slot} (h : K don da) : OutA P E Q ops n env own R M F D i M p [] don da K := fun _ => ⟨don.reverse, _, _, .nil i p don.reverse, by rw [List.reverse_reverse, List.append_nil]; exact h⟩
theorem OutA.alloc {o : Oper} {os : List Oper} {don : List Slot} {d : Nat} {z : List AV} (ha : AllocOp P o d z) (hn : Nat.blt d n = true) (h : OutA P E Q ops n env own R M F D (i + 1) j p os ((n + i, .inl (.c undef)) :: don) (da ++ [(i, d, z)]) K) : OutA P E Q ops n env own R M F D i j p (o :: os) don da K := fun hi => by
  obtain ⟨all, lv, ds, h1, h2⟩ := h (by simp [hi])
  rw [List.reverse_cons] at h1
  exact ⟨all, _, _, .alloc ha hn h1, by simpa using h2⟩
theorem OutA.quiet {o : Oper} {os : List Oper} {don : List Slot} {d : Nat} {x : AV} (sl : List Nat) (hd : o.dst = some d) (hn : Nat.blt d n = true) (hc : chkR o sl don i = true)
    (hs : ∀ os' ex, vdO own R os' → os'.length ≤ M → Step P E ops ⟨n, selR sl don ++ env, curO own os' ++ ex, F, D⟩ o x) (h : OutA P E Q ops n env own R M F D (i + 1) j p os ((d, .inl x) :: don) da K) : OutA P E Q ops n env own R M F D i j p (o :: os) don da K := fun hi => by
  obtain ⟨all, lv, ds, h1, h2⟩ := h (by simp [hi])
  rw [List.reverse_cons] at h1
  exact ⟨all, _, _, .quiet hd hn (selR_get hi hc) hs h1, h2⟩
theorem OutA.loud {o : Oper} {os : List Oper} {don : List Slot} {d : Nat} (sl : List Nat) (hd : o.dst = some d) (hn : Nat.blt d n = true) (hg : o.guard = none) (hc : chkO o sl don i = true) (hp : (Nat.beq j 0 || depsOk o [p]) = true)
    (hs : ∀ os' ex, vdO own R os' → os'.length = j → LStepR P E Q ⟨n, selO sl os' don ++ env, curO own os' ++ ex, F, D⟩ (ExR ex (R os') (curO own os')) o) (h : OutA P E Q ops n env own R M F D (i + 1) (j + 1) i os ((d, .inr (j, id)) :: don) da K) : OutA P E Q ops n env own R M F D i j p (o :: os) don da K := fun hi => by
  obtain ⟨all, lv, ds, h1, h2⟩ := h (by simp [hi])
  rw [List.reverse_cons] at h1
  exact ⟨all, _, _, .loud (.inr ⟨hd, blt_lt hn⟩) hg (fun os' _ => selO_get (os := os') hi hc) hp hs h1, h2⟩
theorem OutA.store {o : Oper} {os : List Oper} {don : List Slot} (sl : List Nat) (hd : o.dst = none) (hu : ∀ os ow x o', R os ow x o' → os.length = j → x = .c undef) (hg : o.guard = none) (hc : chkO o sl don i = true) (hp : (Nat.beq j 0 || depsOk o [p]) = true)
    (hs : ∀ os' ex, vdO own R os' → os'.length = j → LStepR P E Q ⟨n, selO sl os' don ++ env, curO own os' ++ ex, F, D⟩ (ExR ex (R os') (curO own os')) o) (h : OutA P E Q ops n env own R M F D (i + 1) (j + 1) i os ((n + i, .inr (j, id)) :: don) da K) : OutA P E Q ops n env own R M F D i j p (o :: os) don da K := fun hi => by
  obtain ⟨all, lv, ds, h1, h2⟩ := h (by simp [hi])
  rw [List.reverse_cons] at h1
  exact ⟨all, _, _, .loud (.inl ⟨hd, rfl, hu⟩) hg (fun os' _ => selO_get (os := os') hi hc) hp hs h1, h2⟩
/-- What was made, with the q-th loud one's value. -/
def selY (sl : List Nat) (q : Nat) (y : AV) : List Slot → List (Nat × AV)
  | [] => []
  | (s, .inl x) :: don => match sl.any (Nat.beq s) with | true => (s, x) :: selY sl q y don | false => selY sl q y don
  | (s, .inr (q', g)) :: don => match Nat.beq q' q && sl.any (Nat.beq s) with | true => (s, g y) :: selY sl q y don | false => selY sl q y don
theorem selY_get {o : Oper} {sl : List Nat} {q : Nat} {os : Outs} {env : List (Nat × AV)} : ∀ {don : List Slot} {i : Nat}, i = don.length → chkO o sl don i = true → EnvOkO o don.reverse env (selY sl q (nthO os q) don ++ env) os
  | [], i, _, _ => fun s x h => .inr (by simpa [selY] using h)
  | (s0, z0) :: don, i, hi, h => fun s x hl => by
    have hi' : i - 1 = don.length := by simp at hi; omega
    have hc : chkO o sl don (i - 1) = true := by
      unfold chkO at h
      split at h
      · simp only [Bool.and_eq_true] at h; exact h.2
      · exact h
    have hd : sl.any (Nat.beq s0) = true → depsOk o [i - 1] = true := fun hb => by
      unfold chkO at h
      rw [hb] at h
      simp only [Bool.and_eq_true] at h; exact h.1
    have hrec : lk (selY sl q (nthO os q) don ++ env) s = some x → (∃ j z, depsOk o [j] = true ∧ ((s0, z0) :: don).reverse[j]? = some (s, z) ∧ x = valO os z) ∨ lk env s = some x := fun hl => by
      rcases selY_get (don := don) (i := i - 1) hi' hc s x hl with ⟨j, z, h1, h2, h3⟩ | h
      · exact .inl ⟨j, z, h1, by rw [List.reverse_cons, List.getElem?_append_left (List.getElem?_eq_some_iff.1 h2).1]; exact h2, h3⟩
      · exact .inr h
    have hlast : ((s0, z0) :: don).reverse[i - 1]? = some (s0, z0) := by rw [hi', List.reverse_cons, List.getElem?_append_right (by simp)]; simp
    cases z0 with
    | inl x0 =>
      unfold selY at hl
      split at hl
      · rename_i hb
        rcases lk_cons hl with ⟨rfl, rfl⟩ | ⟨_, hl⟩
        · exact .inl ⟨i - 1, _, hd hb, hlast, rfl⟩
        · exact hrec hl
      · exact hrec hl
    | inr p =>
      obtain ⟨q', g⟩ := p
      unfold selY at hl
      split at hl
      · rename_i hb
        simp only [Bool.and_eq_true] at hb
        have := Nat.eq_of_beq_eq_true hb.1
        subst this
        rcases lk_cons hl with ⟨rfl, rfl⟩ | ⟨_, hl⟩
        · exact .inl ⟨i - 1, _, hd hb.2, hlast, rfl⟩
        · exact hrec hl
      · exact hrec hl
theorem OutA.dep {o : Oper} {os : List Oper} {don : List Slot} {d s' : Nat} {g' : AV → AV} (q i' : Nat) (g : AV → AV) (sl : List Nat) (hd : o.dst = some d) (hn : Nat.blt d n = true) (hi' : depsOk o [i'] = true) (hq : don.reverse[i']? = some (s', .inr (q, g'))) (hc : chkO o sl don i = true)
    (hs : ∀ y own', (∃ hs o', hs.length = q ∧ vdO own R hs ∧ R hs (curO own hs) y o') → Step P E ops ⟨n, selY sl q y don ++ env, own', F, D⟩ o (g y)) (h : OutA P E Q ops n env own R M F D (i + 1) j p os ((d, .inr (q, g)) :: don) da K) : OutA P E Q ops n env own R M F D i j p (o :: os) don da K := fun hi => by
  obtain ⟨all, lv, ds, h1, h2⟩ := h (by simp [hi])
  rw [List.reverse_cons] at h1
  exact ⟨all, _, _, .dep hd hn hi' hq (fun os' => selY_get (os := os') hi hc) hs h1, h2⟩
theorem LStepR.frame {st : St} {ex own1 : List Own} {R R' : List Own → AV → List Own → Prop} {o : Oper} (h : LStepR P E Q st R o) (hR : ∀ x o', R st.own x o' → ∃ o1, o'.Perm (o1 ++ ex) ∧ R' own1 x o1) : LStepR P E Q st (ExR ex R' own1) o := fun A a w hA K hK =>
  h A a w hA K fun v x own' w' A' hR1 hf hs hv => hK v x own' w' A' (hR x own' hR1) hf hs hv
/-- An allocation: the new box comes last. -/
theorem LStepR.alloc {t ty : TypeId} {pos : String} {af : Array Edge} {d : Nat} {vs : List Value} (hz : zeroCells P t = some vs) (h1 : vs.all (·.oneCell') = true) :
    LStepR P E Q ⟨n, env, own, F, D⟩ (fun ow x o' => ∃ b, x = .c (.pointer (some ⟨b, 0, none⟩)) ∧ o' = ow ++ [.box b (vs.map AV.c)]) ⟨some d, .alloc t, ty, pos, af, none⟩ := fun A a w hA K hK =>
  (AllocOp.mk (ty := ty) (pos := pos) (af := af) (d := d) hz h1).run (E := E) (own := own) (ex := []) (by rw [List.append_nil]; exact hA) K fun b w' hf hs =>
    hK _ _ _ w' A ⟨b, rfl, rfl⟩ hf (hs.perm (by rw [List.append_nil]; exact (List.perm_append_singleton _ _).symm)) (.c _)
end
end Go.Proofs.Ytkiankpmkglhcaa.J

/- Parts of own arrays: an own array laid open as a block; slices of it as constants; copies, appends in place, clearing, room that is made. -/
namespace Go.Proofs.Ytkiankpmkglhcaa.J
open Go Go.RowKit
set_option linter.unusedVariables false
set_option linter.unusedSimpArgs false
abbrev sv (b off l c : Nat) : Value := .slice (some ⟨b, off, none⟩) l c
section
variable {P : Program} {E : Ent} {st : St} {Q : Exit → St → Prop} {n B : Nat} {env : List (Nat × AV)} {own : List Own} {F : List (Value × AV)} {D : List Deferred} {ops : Array Oper} {rest : List Oper} {c : Code}
variable {A : Foot} {a : Act} {w w' : World} {t tx et ty : TypeId} {pos : String} {af : Array Edge} {d : Nat} {dd : Option Tmp} {gd : Option (Nat × Bool)} {x y s lo hi mx : Operand} {g : Bool} {m : Nat} {k k' k'' : IntKind} {i j j' : Int}
/-! ### open and shut -/
theorem SatA.swap {i : Nat} {o o' : Own} (h : SatA E A ⟨n, env, own, F, D⟩ a w) (hi : own[i]? = some o) (hf : o'.fp = o.fp) (ho : o'.ok w A) : SatA E A ⟨n, env, own.set i o', F, D⟩ a w :=
  ⟨h.size, h.defers, h.keep, h.hp.upd hi hf (.refl _ _) rfl ho, h.env, h.facts⟩
theorem SatA.lay {i : Nat} {v : Value} {e : ETy} {xs : List (List AV)} (h : SatA E A ⟨n, env, own, F, D⟩ a w) (hi : own[i]? = some (.arr v e xs)) :
    (∃ a0, v = .slice a0 0 0 ∧ xs = []) ∨ ∃ b cap sp, v = sv b 0 xs.length (cap + 1) ∧ xs.length ≤ cap + 1 ∧ (∀ x ∈ xs, x.length = e.sz) ∧ xs.flatten.length + List.length sp = (cap + 1) * e.sz ∧
      SatA E A ⟨n, env, own.set i (.box b (xs.flatten ++ sp.map AV.c)), F, D⟩ a w := by
  rcases h.arr i hi with h0 | ⟨b, cap, us, t, hv, h1, h2, h3, h4, h5⟩
  · exact .inl h0
  have hfl := flatten_length xs h4
  have hle : xs.flatten.length ≤ us.size := by rw [hfl, h3.size]; exact Nat.mul_le_mul_right _ h2
  have h3s := h3.size
  have hul : us.toList.length = us.size := by simp
  refine .inr ⟨b, cap, us.toList.drop xs.flatten.length, hv, h2, h4, by rw [List.length_drop]; omega, h.swap hi (by rw [hv]; rfl) ?_⟩
  refine ⟨us, t, h1, by rw [List.length_append, List.length_map, List.length_drop]; omega, fun k y hk => ?_⟩
  rw [Nat.zero_add]
  by_cases hlt : k < xs.flatten.length
  · rw [List.getElem?_append_left hlt] at hk
    have := h5 k y hk
    rwa [Nat.zero_add] at this
  · rw [List.getElem?_append_right (by omega), List.getElem?_map, List.getElem?_drop] at hk
    rw [show xs.flatten.length + (k - xs.flatten.length) = k by omega] at hk
    cases hu : us[k]? with
    | none => rw [Array.getElem?_toList, hu] at hk; cases hk
    | some u =>
      rw [Array.getElem?_toList, hu] at hk
      simp only [Option.map_some, Option.some.injEq] at hk
      subst hk
      exact ⟨u, rfl, h3.one k u hu, .c u⟩
theorem J.lay (i : Nat) {v : Value} {e : ETy} {xs : List (List AV)} (hi : own[i]? = some (.arr v e xs)) (h0 : ∀ a0, v = .slice a0 0 0 → xs = [] → J P E c ⟨n, env, own, F, D⟩ Q)
    (h1 : ∀ b cap sp, v = sv b 0 xs.length (cap + 1) → xs.length ≤ cap + 1 → (∀ x ∈ xs, x.length = e.sz) → xs.flatten.length + List.length sp = (cap + 1) * e.sz → J P E c ⟨n, env, own.set i (.box b (xs.flatten ++ sp.map AV.c)), F, D⟩ Q) : J P E c ⟨n, env, own, F, D⟩ Q := fun a w ⟨A, hA⟩ => by
  rcases hA.lay hi with ⟨a0, hv, hx⟩ | ⟨b, cap, sp, hv, g1, g2, g3, g4⟩
  · exact h0 a0 hv hx a w ⟨A, hA⟩
  · exact h1 b cap sp hv g1 g2 g3 a w ⟨A, g4⟩
theorem SatA.fold {i : Nat} {b cap : Nat} {ys : List AV} {v : Value} {e : ETy} {xs : List (List AV)} (h : SatA E A ⟨n, env, own, F, D⟩ a w) (hi : own[i]? = some (.box b ys)) (hv : v = sv b 0 xs.length (cap + 1)) (hle : xs.length ≤ cap + 1)
    (hs : ∀ x ∈ xs, x.length = e.sz) (hl : ys.length = (cap + 1) * e.sz) (hp : ys.take xs.flatten.length = xs.flatten) : SatA E A ⟨n, env, own.set i (.arr v e xs), F, D⟩ a w := by
  obtain ⟨us, t, h1, h2, h3⟩ := (h.hp.own _ (List.mem_of_getElem? hi) : (Own.box b ys).ok w A)
  refine h.swap hi (by rw [hv]; rfl) (.inr ⟨b, cap, us, t, hv, h1, hle, ⟨by rw [h2, hl], fun k u hu => ?_⟩, hs, fun k y hk => ?_⟩)
  · have hk : k < ys.length := by rw [← h2]; exact (Array.getElem?_eq_some_iff.1 hu).1
    obtain ⟨u', g1, g2, _⟩ := h3 k _ (List.getElem?_eq_getElem hk)
    rw [Nat.zero_add, hu] at g1
    cases g1; exact g2
  · refine h3 k y ?_
    have hk1 := (List.getElem?_eq_some_iff.1 hk).1
    rw [← hp] at hk
    rw [List.getElem?_take] at hk
    rwa [if_pos hk1] at hk
theorem J.fold (i : Nat) {b cap : Nat} {ys : List AV} {v : Value} {e : ETy} (xs : List (List AV)) (hi : own[i]? = some (.box b ys)) (hv : v = sv b 0 xs.length (cap + 1)) (hle : xs.length ≤ cap + 1)
    (hs : ∀ x ∈ xs, x.length = e.sz) (hl : ys.length = (cap + 1) * e.sz) (hp : ys.take xs.flatten.length = xs.flatten) {own' : List Own} (ho : own.set i (.arr v e xs) = own') (h : J P E c ⟨n, env, own', F, D⟩ Q) : J P E c ⟨n, env, own, F, D⟩ Q := fun a w ⟨A, hA⟩ => by
  subst ho
  exact h a w ⟨A, hA.fold hi hv hle hs hl hp⟩
/-! ### slices of a block, as constants -/
theorem cut_val {b off cap : Nat} {l : Nat} {off' : Nat} (ho : (if cap = l then off else off + l * m) = off') (l' c' : Nat) : (Value.slice (if cap = l then some ⟨b, off, none⟩ else (some ⟨b, off, none⟩ : Option Addr).map (·.add (l * m))) l' c') = sv b off' l' c' := by
  subst ho
  split
  · rfl
  · rw [Option.map_some, add_at]
theorem QW.cutL {b off len cap l off' : Nat} (hU : P.underlying t = some (.slice et)) (hT : tySz P et = some (g, m, B)) (hx : Ev E st x (.c (sv b off len cap))) (hlo : Ev E st lo (.c (.int k i))) (hi : i = (l : Int)) (hl : l ≤ len) (hc : len ≤ cap) (ho : (if cap = l then off else off + l * m) = off') :
    QW P E st ⟨dd, .slice t x (some lo) none none, ty, pos, af, gd⟩ (.c (sv b off' (len - l) (cap - l))) := .pure fun A a w hs => by
  refine ⟨sv b off' (len - l) (cap - l), ?_, .c _⟩
  have := run_slice (P := P) (w := w) (ad := some ⟨b, off, none⟩) (k := k) (k' := .i64) hU hT (some l) none (len := len) (cap := cap) (by simpa using hl) (by simpa using hc)
  simp only [bnd, Option.getD_some, Option.getD_none] at this
  rw [cut_val ho] at this
  simp only [execOp, hx.eq hs, Option.map_some, Option.map_none, EvBnd hlo hi hs, Sem.run_bind, this, Result.andThen_ok, Sem.run_pure]
theorem QW.cutH {b off len cap h : Nat} (hU : P.underlying t = some (.slice et)) (hT : tySz P et = some (g, m, B)) (hx : Ev E st x (.c (sv b off len cap))) (hhi : Ev E st hi (.c (.int k j))) (hj : j = (h : Int)) (hc : h ≤ cap) :
    QW P E st ⟨dd, .slice t x none (some hi) none, ty, pos, af, gd⟩ (.c (sv b off h cap)) := .pure fun A a w hs => by
  refine ⟨sv b off h cap, ?_, .c _⟩
  have := run_slice (P := P) (w := w) (ad := some ⟨b, off, none⟩) (k := .i64) (k' := k) hU hT none (some h) (len := len) (cap := cap) (by simp) (by simpa using hc)
  simp only [bnd, Option.getD_some, Option.getD_none, Nat.sub_zero] at this
  rw [cut_val (l := 0) (off' := off) (by split <;> simp)] at this
  simp only [execOp, hx.eq hs, Option.map_some, Option.map_none, EvBnd hhi hj hs, Sem.run_bind, this, Result.andThen_ok, Sem.run_pure]
theorem QW.cap_c {ad : Option Addr} {l cap : Nat} (hU : P.underlying t = some (.slice et)) (h : Ev E st x (.c (.slice ad l cap))) : QW P E st ⟨dd, .call ⟨.builtin .cap, #[x], #[t]⟩, ty, pos, af, gd⟩ (.c (.int .i64 (cap : Int))) := .pure fun A a w hs =>
  ⟨_, by simp [execOp, resolve, invoke, builtin, Builtin.cap_, run_underlying _ hU, h.eq hs, goInt], .c _⟩
/-! ### what is copied -/
/-- The first m of a slice of l elements: their cells. -/
def SrcN (P : Program) (w : World) (A : Foot) (sz m l : Nat) (v : Value) (zs : List AV) : Prop :=
  ∃ ad cp cs, v = .slice ad l cp ∧ (Builtin.firstCells sz m v).run P w = .ok (List.toArray cs) w ∧ Cells w A cs.toArray 0 zs ∧ cs.length = zs.length ∧ zs.length = m * sz
theorem cells_part {us : Array Value} {zs : List AV} {b off o2 mm : Nat} {tt : TypeId} {fz : Nat × Nat} (h : Cells w A us off zs) (hb : w.heap[b]? = some (.cells us tt fz)) (hle : o2 + mm ≤ zs.length) :
    ∃ cs : List Value, cs.length = mm ∧ (∀ j u, cs[j]? = some u → w.cell? ((⟨b, off + o2, none⟩ : Addr).add j) = some u) ∧ Cells w A cs.toArray 0 ((zs.drop o2).take mm) := by
  have hg : ∀ q, q < mm → ∃ u, us[off + (o2 + q)]? = some u ∧ u.oneCell' = true ∧ ∀ y, zs[o2 + q]? = some y → Rd w A u y := fun q hq => by
    obtain ⟨u, h1, h0, h2⟩ := h (o2 + q) _ (List.getElem?_eq_getElem (by omega))
    exact ⟨u, h1, h0, fun y hy => by rw [List.getElem?_eq_getElem (by omega)] at hy; cases hy; exact h2⟩
  have hu : ∀ q, q < mm → us[off + (o2 + q)]? = some (us.getD (off + (o2 + q)) undef) := fun q hq => by
    obtain ⟨u, h1, _⟩ := hg q hq
    simp [Array.getD_eq_getD_getElem?, h1]
  refine ⟨(List.range mm).map fun q => us.getD (off + (o2 + q)) undef, by simp, fun q u hq => ?_, fun q y hq => ?_⟩
  · rw [List.getElem?_map] at hq
    by_cases hlt : q < mm
    · rw [List.getElem?_range hlt] at hq; cases hq
      rw [add_at, cell_at hb, Nat.add_assoc]; exact hu q hlt
    · rw [List.getElem?_eq_none (by simpa using hlt)] at hq; cases hq
  · rw [List.getElem?_take] at hq
    split at hq
    · rename_i hlt
      rw [List.getElem?_drop] at hq
      obtain ⟨u, h1, h0, h2⟩ := hg q hlt
      have : us.getD (off + (o2 + q)) undef = u := by simp [Array.getD_eq_getD_getElem?, h1]
      exact ⟨u, by simp [hlt, h1], h0, h2 y hq⟩
    · cases hq
theorem SrcN.box {sz mm l cp b2 o2 i2 : Nat} {zs : List AV} {st : St} (h : Ev E st x (.c (sv b2 o2 l cp))) (ho : st.own[i2]? = some (.box b2 zs)) (hm : mm ≤ l) (hle : o2 + mm * sz ≤ zs.length) : ∀ A a w, SatA E A st a w → SrcN P w A sz mm l (a.eval x) ((zs.drop o2).take (mm * sz)) := fun A a w hs => by
  obtain ⟨us, tt, h1, h2, h3⟩ := (hs.hp.own _ (List.mem_of_getElem? ho) : (Own.box b2 zs).ok w A)
  obtain ⟨cs, g1, g2, g3⟩ := cells_part (off := 0) h3 h1 hle
  rw [Nat.zero_add] at g2
  refine ⟨_, _, cs, h.eq hs, ?_, g3, by rw [g1]; simp; omega, by simp; omega⟩
  rw [h.eq hs]
  exact run_firstCells_some w sz mm ⟨b2, o2, none⟩ l cp cs g1 g2
theorem SrcN.sl {sz mm : Nat} {fr clip : Bool} {e : ETy} {xs : List (List AV)} {st : St} (h : Ev E st x (.sl fr clip e xs)) (hsz : e.sz = sz) (hm : mm ≤ xs.length) : ∀ A a w, SatA E A st a w → SrcN P w A sz mm xs.length (a.eval x) (xs.flatten.take (mm * sz)) := fun A a w hs => by
  obtain ⟨ad, cap, hv, _, _, hc⟩ := (h A a w hs).of_sl
  rcases hc with rfl | ⟨b, off, cs, t', fz, rfl, hAb, hb, hxl, _, hc⟩
  · obtain rfl : mm = 0 := by simpa using hm
    refine ⟨_, _, [], hv, ?_, fun k y hk => by simp at hk, by simp, by simp⟩
    rw [hv]
    cases ad with
    | none => exact run_firstCells_none w sz 0 _ _
    | some a' => exact run_firstCells_some w sz 0 a' _ _ [] (by simp) (by intro _ _ h'; simp at h')
  · have hfl := flatten_length xs hxl
    subst hsz
    have hle : 0 + mm * e.sz ≤ xs.flatten.length := by rw [hfl, Nat.zero_add]; exact Nat.mul_le_mul_right _ hm
    obtain ⟨vs, g1, g2, g3⟩ := cells_part (o2 := 0) hc hb hle
    rw [List.drop_zero] at g3
    refine ⟨_, _, vs, hv, ?_, g3, by rw [g1, List.length_take]; omega, by rw [List.length_take]; omega⟩
    rw [hv]
    exact run_firstCells_some w e.sz mm ⟨b, off, none⟩ _ _ vs g1 (by simpa using g2)
theorem SrcN.one {sz : Nat} {fr clip : Bool} {e : ETy} {ys : List AV} {st : St} (h : Ev E st x (.sl fr clip e [ys])) (hsz : e.sz = sz) (hy : ys.length = sz) : ∀ A a w, SatA E A st a w → SrcN P w A sz 1 1 (a.eval x) ys := fun A a w hs => by
  have := SrcN.sl (P := P) (mm := 1) h hsz (Nat.le_refl 1) A a w hs
  have h2 : ([ys] : List (List AV)).flatten.take (1 * sz) = ys := by
    rw [Nat.one_mul, show ([ys] : List (List AV)).flatten = ys by simp]
    exact List.take_of_length_le (Nat.le_of_eq hy)
  rwa [h2] at this
theorem SrcN.boxE {sz mm l cp b2 o2 i2 q : Nat} {zs : List AV} {st : St} (h : Ev E st x (.c (sv b2 o2 l cp))) (ho : st.own[i2]? = some (.box b2 zs)) (hq : mm * sz = q) (hm : mm ≤ l) (hle : o2 + q ≤ zs.length) : ∀ A a w, SatA E A st a w → SrcN P w A sz mm l (a.eval x) ((zs.drop o2).take q) := by
  subst hq
  exact SrcN.box h ho hm hle
/-- Cells laid into an own block. -/
theorem SatA.lays {i b off : Nat} {ys zs : List AV} {cs : List Value} (hA : SatA E A ⟨n, env, own, F, D⟩ a w) (ho : own[i]? = some (.box b ys)) (hc : Cells w A cs.toArray 0 zs) (hl : cs.length = zs.length) (hle : off + zs.length ≤ ys.length) :
    ∃ w1, (storeCells ⟨b, off, none⟩ cs 0).run P w = .ok () w1 ∧ SatA E A ⟨n, env, own.set i (.box b (splice ys off zs)), F, D⟩ a w1 := by
  have hmem := List.mem_of_getElem? ho
  obtain ⟨us, tt, h1, h2, h3⟩ := (hA.hp.own _ hmem : (Own.box b ys).ok w A)
  obtain ⟨w1, us1, hr1, hk1, hz1, hb1, hs1, hu1⟩ := run_storeCells (P := P) (off := off) cs 0 us w h1 (by omega) (List.all_eq_true.2 (hc.ones hl))
  refine ⟨w1, hr1, ?_⟩
  have hfp : ∀ fr q, A fr q → q < w.heap.size → w1.heap[q]? = w.heap[q]? := fun fr q hq hlt => hk1.block q hlt fun hm' => by
    simp only [List.mem_singleton] at hm'
    subst hm'
    exact (hA.hp.fp q (fps_mem hmem (by simp [Own.fp]))).2.2 fr hq
  refine hA.step (hk1.mono fun q hq => fps_mem hmem (by simpa [Own.fp] using hq)) (fun _ _ h => h) (hA.hp.upd (o' := .box b (splice ys off zs)) ho (by simp [Own.fp]) (by simpa [Own.fp] using hk1) hz1 ⟨us1, tt, hb1, by rw [hs1, h2, splice_length hle], ?_⟩)
  exact (h3.spliced hc hl hle (by simpa using hu1)).keep hfp
/-- copy, into an own block. -/
theorem JL.copyN (i : Nat) {b o1 l1 c1 l2 mm sz : Nat} {ys zs : List AV} (hU : P.underlying t = some (.slice et)) (hT : tySz P et = some (g, sz, B)) (hs : Ev E ⟨n, env, own, F, D⟩ s (.c (sv b o1 l1 c1))) (ho : own[i]? = some (.box b ys))
    (hx : ∀ A a w, SatA E A ⟨n, env, own, F, D⟩ a w → SrcN P w A sz mm l2 (a.eval x) zs) (hm : Nat.min l2 l1 = mm) (hle : o1 + zs.length ≤ ys.length) (hd : Nat.blt d n = true)
    (h : JL P E ops rest ⟨n, (d, .c (.int .i64 (mm : Int))) :: env, own.set i (.box b (splice ys o1 zs)), F, D⟩ Q) :
    JL P E ops (⟨some d, .call ⟨.builtin .copy, #[s, x], #[t, tx]⟩, ty, pos, af, none⟩ :: rest) ⟨n, env, own, F, D⟩ Q := fun a w ⟨A, hA⟩ => by
  refine wpListIn_plain rfl fun K hK => ?_
  refine wpR (by intro c h; cases h) ?_
  unfold Oper.wp
  obtain ⟨ad, cp, cs, hv, hf, hc, hl, _⟩ := hx A a w hA
  obtain ⟨w1, hr1, hS⟩ := hA.lays (P := P) ho hc hl hle
  have hr : (Builtin.copy_ #[t, tx] ty #[sv b o1 l1 c1, a.eval x]).run P w = .ok (.int .i64 (mm : Int)) w1 := by
    rw [hv] at hf ⊢
    simp [Builtin.copy_, run_underlying _ hU, Builtin.lenOf, hm, run_sizeOf hT, hf, hr1, goInt]
  have he : (execOp a.eval ⟨some d, .call ⟨.builtin .copy, #[s, x], #[t, tx]⟩, ty, pos, af, none⟩).run P w = .ok (.value (.int .i64 (mm : Int))) w1 := by
    simp [execOp, resolve, invoke, builtin, hs.eq hA, hr, Result.andThen]
  rw [he, Oper.upon_value]
  exact hK _ _ (h _ _ ⟨A, hS.put (blt_lt hd) (.c _)⟩)
/-- append of room that is made, where there is none: a new block; what lies behind the old elements is not told. -/
theorem JL.appMake (i : Nat) {b o1 l1 c1 q : Nat} {e : ETy} {ys : List AV} {kn kq : IntKind} (hU : P.underlying t = some (.slice et)) (hN : P.underlying tx = some (.int kn)) (hE : elemB P et e = true) (h0 : Nat.blt 0 e.sz = true) (hs : Ev E ⟨n, env, own, F, D⟩ s (.c (sv b o1 l1 c1))) (ho : own[i]? = some (.box b ys))
    (hx : Ev E ⟨n, env, own, F, D⟩ x (.c (.int kq (q : Int)))) (hq : 0 < q) (hg : c1 < l1 + q) (hle : o1 + l1 * e.sz ≤ ys.length) (hreach : (l1 + q) * e.bytes ≤ reach) (hr63 : l1 + q ≤ reach) (hd : Nat.blt d n = true)
    (h : ∀ b' cap tl, l1 + q ≤ cap + 1 → ((ys.drop o1).take (l1 * e.sz)).length = l1 * e.sz → l1 * e.sz + List.length tl = (cap + 1) * e.sz → JL P E ops rest ⟨n, (d, .c (sv b' 0 (l1 + q) (cap + 1))) :: env, .box b' ((ys.drop o1).take (l1 * e.sz) ++ tl) :: own, F, D⟩ Q) :
    JL P E ops (⟨some d, .call ⟨.builtin .append, #[s, x], #[t, tx]⟩, ty, pos, af, none⟩ :: rest) ⟨n, env, own, F, D⟩ Q := fun a w ⟨A, hA⟩ => by
  refine wpListIn_plain rfl fun K hK => ?_
  refine wpR (by intro c h; cases h) ?_
  unfold Oper.wp
  obtain ⟨ti, tz, hi, hsz, hby, hz, hzs, hz1⟩ := elemB_get hE
  have hA' := hA.draw
  obtain ⟨us, tt, g1, g2, g3⟩ := (hA'.hp.own _ (List.mem_of_getElem? ho) : (Own.box b ys).ok _ A)
  obtain ⟨cs, k1, k2, k3⟩ := cells_part (off := 0) g3 g1 hle
  rw [Nat.zero_add] at k2
  have hold : (Builtin.firstCells ti.size l1 (sv b o1 l1 c1)).run P w.drew = .ok cs.toArray w.drew := run_firstCells_some w.drew ti.size l1 ⟨b, o1, none⟩ l1 c1 cs (by rw [hsz]; exact k1) k2
  have hp := blt_lt h0
  unfold reach at hr63 hreach
  have hqb : q * ti.bytes ≤ (l1 + q) * e.bytes := by rw [hby]; exact Nat.mul_le_mul_right _ (by omega)
  have hr := Go.Lib.run_append_grow_zeros (P := P) w t tx ty et ti tz kq kn hU hN hi hz (some ⟨b, o1, none⟩) l1 c1 cs hold q hq (by omega) hg (by omega) (by omega) (growslice_fits hg (by rw [hby]; omega))
  have hge := grownCap_ge w (l1 + q) c1 et
  rw [run_builtin_append (hs.eq hA) rfl (by rw [hx.eq hA]; exact hr), Oper.upon_value, alloc_eq]
  obtain ⟨cap, hcap⟩ : ∃ cap, grownCap w (l1 + q) c1 et = cap + 1 := ⟨grownCap w (l1 + q) c1 et - 1, by omega⟩
  generalize hrow : (cs.toArray ++ Builtin.zeroCells tz.cells q ++ Builtin.zeroCells tz.cells (grownCap w (l1 + q) c1 et - (l1 + q)) : Array Value) = row at *
  have hz0 : ∀ u ∈ Builtin.zeroCells tz.cells q ++ Builtin.zeroCells tz.cells (grownCap w (l1 + q) c1 et - (l1 + q)), u.oneCell' = true := fun u hu => by
    rcases Array.mem_append.1 hu with hu | hu <;> exact zeroCells_one hz1 u hu
  let tl : List AV := (Builtin.zeroCells tz.cells q ++ Builtin.zeroCells tz.cells (grownCap w (l1 + q) c1 et - (l1 + q))).toList.map AV.c
  have hhl : ((ys.drop o1).take (l1 * e.sz)).length = l1 * e.sz := by rw [List.length_take, List.length_drop]; omega
  have htl : tl.length = (q + (cap + 1 - (l1 + q))) * e.sz := by simp [tl, size_zeroCells, hzs, hcap, Nat.add_mul]
  have hrl : row = cs.toArray ++ (Builtin.zeroCells tz.cells q ++ Builtin.zeroCells tz.cells (grownCap w (l1 + q) c1 et - (l1 + q))) := by rw [← hrow, Array.append_assoc]
  have hrc : Cells (World.drawnBy w) A row 0 ((ys.drop o1).take (l1 * e.sz) ++ tl) := fun r y hk => by
    rw [Nat.zero_add]
    by_cases hlt : r < ((ys.drop o1).take (l1 * e.sz)).length
    · rw [List.getElem?_append_left hlt] at hk
      obtain ⟨u, m1, m2, m3⟩ := k3 r y hk
      rw [Nat.zero_add] at m1
      refine ⟨u, ?_, m2, m3⟩
      rw [hrl, Array.getElem?_append_left (by simp; omega)]
      exact m1
    · rw [List.getElem?_append_right (by omega)] at hk
      simp only [tl, List.getElem?_map, Option.map_eq_some_iff] at hk
      obtain ⟨u, m1, rfl⟩ := hk
      rw [hhl] at m1
      refine ⟨u, ?_, hz0 u (by simpa using List.mem_of_getElem? m1), .c u⟩
      rw [hrl, Array.getElem?_append_right (by simp; omega)]
      simp only [List.size_toArray, k1]
      rw [← Array.getElem?_toList]
      exact m1
  have hrs : row.size = ((ys.drop o1).take (l1 * e.sz) ++ tl).length := by
    rw [hrl, List.length_append, hhl, Array.size_append]
    simp [tl, k1]
  have hN2 := h w.heap.size cap tl (by omega) hhl (by rw [htl, ← Nat.add_mul]; congr 1; omega)
  rw [hcap]
  refine hK _ _ (hN2 _ _ ⟨A, SatA.put ?_ (blt_lt hd) (.c _)⟩)
  exact hA'.step (.push _ _ _) (fun _ _ h => h) (hA'.hp.push_box (us := row) (t := et) hA'.keep.size hrs hrc)
/-- slices.overlaps: a slice that is read, and a part of an own block. -/
theorem run_apart {tS tR : TypeId} {va b off l cb lA cA oA : Nat} {csA us : Array Value} {tA tB : TypeId} {fz : Nat × Nat} (hU : P.underlying tS = some (.slice et)) (hT : tySz P et = some (g, m, B)) (ha : w.heap[va]? = some (.cells csA tA fz)) (hb : w.heap[b]? = some (.cells us tB (0, 0))) (hne : va ≠ b) (hkA : csA.size ≠ 0) (hkB : us.size ≠ 0) :
    (Extern.SlicesOverlaps.overlaps #[tS, tS] #[tR] #[sv va oA lA cA, sv b off l cb]).run P w = .ok (.bool false) w := by
  have hsa : w.shape? va = some (tA, csA.size) := by simp [World.shape?, ha]
  have hsb : w.shape? b = some (tB, us.size) := by simp [World.shape?, hb]
  have hfb : ∀ q, w.frozen? ⟨b, q, none⟩ = false := fun q => by simp [World.frozen?, hb]
  have hnb : (va != b) = true := by simpa using hne
  have hnb' : (va == b) = false := by simpa using hne
  obtain ⟨nA, hnA⟩ : ∃ nA, csA.size = nA + 1 := ⟨csA.size - 1, by omega⟩
  rw [hnA] at hsa
  obtain ⟨nB, hnB⟩ : ∃ nB, us.size = nB + 1 := ⟨us.size - 1, by omega⟩
  rw [hnB] at hsb
  change Sem.run P (α := Value) (do
    let some t := (#[tS, tS] : Array TypeId)[0]? | stuck "slices.overlaps: no parameter types"
    let .slice elem ← underlying t | stuck "slices.overlaps: slice type expected"
    let size ← sizeOf elem
    match (some ⟨va, oA, none⟩ : Option Addr), (some ⟨b, off, none⟩ : Option Addr) with
    | some a, some b =>
      if lA = 0 ∨ l = 0 ∨ size = 0 then pure (Value.bool false)
      else if a.block != b.block && (← frozen a) && (← frozen b) then unsupported .addressObserved
      else do
        if a.block != b.block then do
          noView a; noView b
          if ← mayBeOne a b then return Value.bool ((← choose (.extern "sameAddr.stringBytes" 2)) == 1)
        pure (Value.bool (a.block == b.block && a.off < b.off + l * size && b.off < a.off + lA * size))
    | _, _ => pure (Value.bool false)) w = _
  by_cases h0 : lA = 0 ∨ l = 0 ∨ m = 0
  · simp [run_underlying _ hU, run_sizeOf hT, h0]
  · cases hf1 : w.frozen? ⟨va, oA, none⟩ <;> cases hf2 : w.frozen? ⟨va, nA + 1, none⟩ <;>
      simp [run_underlying _ hU, run_sizeOf hT, h0, hnb, hnb', frozen, noView, viewAt, mayBeOne, stringish, shape, Sem.run, hsa, hsb, hf1, hf2, hfb]
theorem QW.apart (i : Nat) {f : FuncId} {tS tR : TypeId} {tys : Array TypeId} {b off l cb : Nat} {ys : List AV} {fr clip : Bool} {e : ETy} {xs : List (List AV)} (hU : P.underlying tS = some (.slice et)) (hT : tySz P et = some (g, m, B))
    (hf : ∀ u v w, (callFunc f #[u, v]).run P w = ((Extern.SlicesOverlaps.overlaps #[tS, tS] #[tR] #[u, v]).run P w).andThen fun v w' => .ok (.value v) w')
    (hx : Ev E ⟨n, env, own, F, D⟩ x (.sl fr clip e xs)) (hy : Ev E ⟨n, env, own, F, D⟩ y (.c (sv b off l cb))) (ho : own[i]? = some (.box b ys)) (hn : xs.flatten ≠ []) (hn2 : ys ≠ []) :
    QW P E ⟨n, env, own, F, D⟩ ⟨dd, .call ⟨.value (.func f), #[x, y], tys⟩, ty, pos, af, gd⟩ (.c (.bool false)) := .pure fun A a w hs => by
  refine ⟨.bool false, ?_, .c _⟩
  obtain ⟨ad, cap, hv, _, _, hc⟩ := (hx A a w hs).of_sl
  obtain ⟨us, tt, h1, h2, h3⟩ := (hs.hp.own _ (List.mem_of_getElem? ho) : (Own.box b ys).ok w A)
  rcases hc with rfl | ⟨va, oA, csA, tA, fz, rfl, hAb, hb, hxl, _, hc⟩
  · exact absurd rfl hn
  have hne : va ≠ b := fun he => by
    subst he
    exact (hs.hp.fp va (fps_mem (List.mem_of_getElem? ho) (by simp [Own.fp]))).2.2 fr hAb
  have hkA : csA.size ≠ 0 := fun h0 => by
    obtain ⟨y0, hy0⟩ : ∃ y0, xs.flatten[0]? = some y0 := by
      cases hxf : xs.flatten with
      | nil => exact absurd hxf hn
      | cons a0 r => exact ⟨a0, rfl⟩
    obtain ⟨u, m1, _⟩ := hc 0 y0 hy0
    have := (Array.getElem?_eq_some_iff.1 m1).1
    omega
  have hkB : us.size ≠ 0 := by rw [h2]; exact fun h0 => hn2 (List.length_eq_zero_iff.1 h0)
  have hr := run_apart (P := P) (tR := tR) (oA := oA) (lA := xs.length) (cA := cap) (off := off) (l := l) (cb := cb) hU hT hb h1 hne hkA hkB
  have := hf (sv va oA xs.length cap) (sv b off l cb) w
  rw [hr] at this
  simp only [execOp, resolve, Act.eval, Deferred.ofValue, Sem.run_bind, Sem.run_pure, Result.andThen_ok, invoke]
  simpa [hv, hy.eq hs, Result.andThen] using this
/-- A part of an own array that is not used further. -/
theorem JL.cutAny (i : Nat) {v : Value} {e : ETy} {xs : List (List AV)} {l : Nat} {j : Int} (hU : P.underlying t = some (.slice et)) (hT : tySz P et = some (g, m, B)) (hx : Ev E ⟨n, env, own, F, D⟩ x (.c v)) (ho : own[i]? = some (.arr v e xs)) (hlo : Ev E ⟨n, env, own, F, D⟩ lo (.c (.int k j))) (hj : j = (l : Int)) (hl : l ≤ xs.length) (hd : Nat.blt d n = true)
    (h : ∀ u, JL P E ops rest ⟨n, (d, .c u) :: env, own, F, D⟩ Q) : JL P E ops (⟨some d, .slice t x (some lo) none none, ty, pos, af, none⟩ :: rest) ⟨n, env, own, F, D⟩ Q := fun a w ⟨A, hA⟩ => by
  refine wpListIn_plain rfl fun K hK => ?_
  refine wpR (by intro c h; cases h) ?_
  unfold Oper.wp
  have hv : ∃ ad cap, v = .slice ad xs.length cap ∧ xs.length ≤ cap := by
    rcases hA.arr i ho with ⟨a0, hv, hx0⟩ | ⟨b, cap, us, t', hv, _, hle, _⟩
    · subst hx0; exact ⟨a0, 0, hv, Nat.le_refl _⟩
    · exact ⟨_, _, hv, hle⟩
  obtain ⟨ad, cap, rfl, hle⟩ := hv
  have := run_slice (P := P) (w := w) (ad := ad) (k := k) (k' := .i64) hU hT (some l) none (len := xs.length) (cap := cap) (by simpa using hl) (by simpa using hle)
  simp only [bnd, Option.getD_some, Option.getD_none] at this
  have he : (execOp a.eval ⟨some d, .slice t x (some lo) none none, ty, pos, af, none⟩).run P w = .ok (.value (.slice (if cap = l then ad else ad.map (·.add (l * m))) (xs.length - l) (cap - l))) w := by
    simp only [execOp, hx.eq hA, Option.map_some, Option.map_none, EvBnd hlo hj hA, Sem.run_bind, this, Result.andThen_ok, Sem.run_pure]
  rw [he, Oper.upon_value]
  exact hK _ _ (h _ _ _ ⟨A, hA.put (blt_lt hd) (.c _)⟩)
end
/-! ### plain: an element laid in, or taken out -/
theorem splice_take {α : Type} {base X ys : List α} {a m : Nat} (h : a ≤ X.length) (hm : ys.length = m) (L : List α) (hL : X.length + m ≤ L.length)
    (hg : ∀ k, k < X.length + m → L[k]? = if k < a then X[k]? else if k < a + m then ys[k - a]? else X[k - m]?) : L.take (X.length + m) = X.take a ++ ys ++ X.drop a := by
  apply List.ext_getElem?
  intro k
  rw [List.getElem?_take]
  by_cases hk : k < X.length + m
  · rw [if_pos hk, hg k hk]
    by_cases h1 : k < a
    · rw [if_pos h1, List.append_assoc, List.getElem?_append_left (by simp; omega), List.getElem?_take, if_pos h1]
    · rw [if_neg h1]
      by_cases h2 : k < a + m
      · rw [if_pos h2, List.getElem?_append_left (by simp; omega), List.getElem?_append_right (by simp; omega), List.length_take, Nat.min_eq_left h]
      · rw [if_neg h2, List.getElem?_append_right (by simp; omega), List.getElem?_drop]
        congr 1
        simp
        omega
  · rw [if_neg hk, List.getElem?_eq_none]
    simp; omega
/-- What stood from a on is moved by m; then ys is laid there. -/
theorem ins_shift {α : Type} {X sp ys : List α} {a m : Nat} (h : a ≤ X.length) (hm : ys.length = m) (hl : X.length + m ≤ (X ++ sp).length) :
    (splice (splice (X ++ sp) (a + m) (((X ++ sp).drop a).take (X.length - a))) a ys).take (X.length + m) = X.take a ++ ys ++ X.drop a := by
  have hl1 : (((X ++ sp).drop a).take (X.length - a)).length = X.length - a := by simp; omega
  have hf1 : a + m + (((X ++ sp).drop a).take (X.length - a)).length ≤ (X ++ sp).length := by rw [hl1]; omega
  have hf2 : a + ys.length ≤ (splice (X ++ sp) (a + m) (((X ++ sp).drop a).take (X.length - a))).length := by rw [splice_length hf1]; omega
  refine splice_take (base := X) h hm _ (by rw [splice_length hf2, splice_length hf1]; omega) fun k hk => ?_
  rw [splice_get hf2, splice_get hf1, hl1, hm]
  by_cases h1 : k < a
  · rw [if_neg (by omega), if_neg (by omega), if_pos h1, List.getElem?_append_left (by omega)]
  · rw [if_neg h1]
    by_cases h2 : k < a + m
    · rw [if_pos ⟨by omega, h2⟩, if_pos h2]
    · rw [if_neg (by omega), if_neg h2, if_pos ⟨by omega, by omega⟩, List.getElem?_take, if_pos (by omega), List.getElem?_drop, List.getElem?_append_left (by omega)]
      congr 1; omega
/-- The same in a new block. -/
theorem ins_grow {α : Type} {X sp tl ys : List α} {a m : Nat} (h : a ≤ X.length) (hm : ys.length = m) (hl : X.length + m ≤ a + tl.length) :
    (splice (splice (((X ++ sp).drop 0).take a ++ tl) a ys) (a + m) (((X ++ sp).drop a).take (X.length - a))).take (X.length + m) = X.take a ++ ys ++ X.drop a := by
  have hh : (((X ++ sp).drop 0).take a).length = a := by simp; omega
  have hl1 : (((X ++ sp).drop a).take (X.length - a)).length = X.length - a := by simp; omega
  have hbl : (((X ++ sp).drop 0).take a ++ tl).length = a + tl.length := by rw [List.length_append, hh]
  have hf1 : a + ys.length ≤ (((X ++ sp).drop 0).take a ++ tl).length := by rw [hbl]; omega
  have hf2 : a + m + (((X ++ sp).drop a).take (X.length - a)).length ≤ (splice (((X ++ sp).drop 0).take a ++ tl) a ys).length := by rw [splice_length hf1, hl1, hbl]; omega
  refine splice_take (base := X) h hm _ (by rw [splice_length hf2, splice_length hf1, hbl]; omega) fun k hk => ?_
  rw [splice_get hf2, splice_get hf1, hl1, hm]
  by_cases h1 : k < a
  · rw [if_neg (by omega), if_neg (by omega), if_pos h1, List.getElem?_append_left (by omega), List.getElem?_take, if_pos h1, List.drop_zero, List.getElem?_append_left (by omega)]
  · rw [if_neg h1]
    by_cases h2 : k < a + m
    · rw [if_neg (by omega), if_pos ⟨by omega, h2⟩, if_pos h2]
    · rw [if_neg h2, if_pos ⟨by omega, by omega⟩, List.getElem?_take, if_pos (by omega), List.getElem?_drop, List.getElem?_append_left (by omega)]
      congr 1; omega
theorem ins_flat {α : Type} {sz : Nat} {xs : List (List α)} {ys : List α} {i : Nat} (hs : ∀ x ∈ xs, x.length = sz) : (xs.take i ++ [ys] ++ xs.drop i).flatten = xs.flatten.take (i * sz) ++ ys ++ xs.flatten.drop (i * sz) := by
  rw [List.flatten_append, List.flatten_append, flatten_take xs hs, flatten_drop xs hs]
  simp
theorem ins_flen {α : Type} {sz : Nat} {xs : List (List α)} {ys : List α} {i : Nat} (hs : ∀ x ∈ xs, x.length = sz) (hy : ys.length = sz) : (xs.take i ++ [ys] ++ xs.drop i).flatten.length = xs.flatten.length + sz := by
  rw [ins_flat hs, List.length_append, List.length_append, List.length_take, List.length_drop, hy]
  omega
theorem ins_len {α : Type} {xs : List (List α)} {ys : List α} {i : Nat} (hi : i ≤ xs.length) : (xs.take i ++ [ys] ++ xs.drop i).length = xs.length + 1 := by simp; omega
theorem ins_sz {α : Type} {sz : Nat} {xs : List (List α)} {ys : List α} {i : Nat} (hs : ∀ x ∈ xs, x.length = sz) (hy : ys.length = sz) : ∀ x ∈ xs.take i ++ [ys] ++ xs.drop i, x.length = sz := by
  intro x hx
  simp only [List.mem_append, List.mem_singleton] at hx
  rcases hx with (hx | rfl) | hx
  · exact hs x (List.mem_of_mem_take hx)
  · exact hy
  · exact hs x (List.mem_of_mem_drop hx)
end Go.Proofs.Ytkiankpmkglhcaa.J

/- A place within an owned value: what the whole is when another value stands there. -/
namespace Go.Proofs.Ytkiankpmkglhcaa.J
open Go Go.RowKit
set_option linter.unusedVariables false
set_option linter.unusedSimpArgs false
theorem Reown.fold {b cap : Nat} {ys : List AV} {v : Value} {e : ETy} {xs : List (List AV)} (hv : v = sv b 0 xs.length (cap + 1)) (hle : xs.length ≤ cap + 1)
    (hs : ∀ x ∈ xs, x.length = e.sz) (hl : ys.length = (cap + 1) * e.sz) (hp : ys.take xs.flatten.length = xs.flatten) : Reown [.box b ys] [.arr v e xs] := by
  subst hv
  refine ⟨fun x => by simp [fps_cons, fps_nil, Own.fp, arrFp, sv], fun w A h => ?_⟩
  simp only [List.forall_mem_cons, List.not_mem_nil, false_implies, implies_true, and_true] at h ⊢
  simp only [Own.ok] at h ⊢
  obtain ⟨us, t, h1, h2, h3⟩ := h
  refine .inr ⟨b, cap, us, t, rfl, h1, hle, ⟨by rw [h2, hl], fun k u hu => ?_⟩, hs, fun k y hk => ?_⟩
  · have hk : k < ys.length := by rw [← h2]; exact (Array.getElem?_eq_some_iff.1 hu).1
    obtain ⟨u', g1, g2, _⟩ := h3 k _ (List.getElem?_eq_getElem hk)
    rw [Nat.zero_add, hu] at g1
    cases g1; exact g2
  · refine h3 k y ?_
    have hk1 := (List.getElem?_eq_some_iff.1 hk).1
    rw [← hp] at hk
    rw [List.getElem?_take] at hk
    rwa [if_pos hk1] at hk
theorem Reown.hd {o : Own} {a l : List Own} (h : Reown [o] a) : Reown (o :: l) (a ++ l) :=
  (Reown.perm (List.perm_append_singleton o l).symm).trans ((Reown.left (c := l) h).trans (Reown.perm List.perm_append_comm))
def Law (b : Nat) (pre post : List AV) (ctx : Own) (b0 : Nat) (plug : V → V) : Prop :=
  ∀ (x : V) (kv iv : Value) (ok oi : Own), x.wf → VTr x kv iv ok oi → ∃ kw iw okw oiw, VTr (plug x) kw iw okw oiw ∧ Reown [.box b (pre ++ x.raw kv iv ++ post), ok, oi, ctx] [.box b0 ((plug x).raw kw iw), okw, oiw]
theorem Law.root (b : Nat) : Law b [] [] (.grp []) b id := fun x kv iv ok oi _ h => ⟨kv, iv, ok, oi, h, by
  rw [List.append_nil, List.nil_append]
  exact Reown.msk [.p, .p, .p] _ rfl⟩
/-- The i-th of a list's items, taken out. -/
theorem kids_at {is : List V} {cs : List (List AV)} {us : List Value} {o : Own} {i : Nat} (hlt : i < is.length) (hl : cs.length = is.length) (h3 : ∀ x ∈ cs, x.length = 5) (hf : cs.flatten = us.map AV.c) (h1 : us.all (·.oneCell') = true) (h : TrL (V.css true is).flatten us o) :
    ∃ kv iv ok oi ob oa u1 u3, cs[i]? = some ((is[i]'hlt).raw kv iv) ∧ VTr (is[i]'hlt) kv iv ok oi ∧ TrL (V.css true (is.take i)).flatten u1 ob ∧ TrL (V.css true (is.drop (i + 1))).flatten u3 oa ∧ (cs.take i).flatten = u1.map AV.c ∧ (cs.drop (i + 1)).flatten = u3.map AV.c ∧
      u1.all (·.oneCell') = true ∧ u3.all (·.oneCell') = true ∧ Reown [o] [ok, oi, ob, oa] := by
  have hsp : (V.css true is).flatten = (V.css true (is.take i)).flatten ++ (V.css true (is.drop i)).flatten := by
    rw [← List.flatten_append, ← V.css_append, List.take_append_drop]
  rw [hsp] at h
  obtain ⟨u1, u2, o1, o2, rfl, g1, g2, g3⟩ := h.split
  rw [List.all_append, Bool.and_eq_true] at h1
  have hlen : (cs.take i).flatten.length = u1.length := by
    rw [← g1.length, flatten_length (sz := 5) _ (fun x hx => h3 x (List.mem_of_mem_take hx)), flatten_length (sz := 5) _ (V.css_sz true _), V.css_length, List.length_take, List.length_take, hl]
  have hf2 : (cs.take i).flatten ++ (cs.drop i).flatten = u1.map AV.c ++ u2.map AV.c := by
    rw [← List.flatten_append, List.take_append_drop, hf, List.map_append]
  obtain ⟨k1, k2⟩ := List.append_inj hf2 (by simpa using hlen)
  obtain ⟨kv, iv, ok, oi, u3, o3, e1, e2, e3, e4, e5, e6⟩ := kids_take hlt hl h3 k2 h1.2 g2
  refine ⟨kv, iv, ok, oi, o1, o3, u1, u3, e1, e2, g1, e5, k1, e3, h1.1, e4, ?_⟩
  exact (Reown.pair g3).trans ((Reown.cons e6).trans (Reown.perm (by
    simpa using (List.perm_append_comm (l₁ := [o1]) (l₂ := [ok, oi])).append_right [o3])))
theorem set_parts {α : Type} {l : List α} {i : Nat} {x : α} (h : i < l.length) : l.set i x = l.take i ++ x :: l.drop (i + 1) := by
  rw [List.set_eq_take_append_cons_drop, if_pos h]
/-- One step further in. -/
theorem Law.into {b b0 b2 cap i : Nat} {pre post : List AV} {ctx ok ob oa : Own} {plug : V → V} {u : V} {kv iv : Value} {cs : List (List AV)} {sp u1 u3 : List Value} (hL : Law b pre post ctx b0 plug) (huw : u.wf) (hk1 : kv.oneCell' = true) (hi1 : iv.oneCell' = true) (hks : Tr (.sl true false eStr (keysAV u.keys)) kv ok)
    (hlt : i < u.items.length) (hcl : cs.length = u.items.length) (h5 : ∀ x ∈ cs, x.length = 5) (hiv : iv = sv b2 0 cs.length (cap + 1)) (hcap : cs.length ≤ cap + 1) (hsz : cs.flatten.length + sp.length = (cap + 1) * 5)
    (t1 : TrL (V.css true (u.items.take i)).flatten u1 ob) (t3 : TrL (V.css true (u.items.drop (i + 1))).flatten u3 oa) (f1 : (cs.take i).flatten = u1.map AV.c) (f3 : (cs.drop (i + 1)).flatten = u3.map AV.c) (a1 : u1.all (·.oneCell') = true) (a3 : u3.all (·.oneCell') = true) :
    Law b2 (cs.take i).flatten ((cs.drop (i + 1)).flatten ++ sp.map AV.c) (.grp [.box b (pre ++ u.raw kv iv ++ post), ok, ob, oa, ctx]) b0 (fun x => plug (u.setAt i x)) := fun x kx ix okx oix hxw hx => by
  have hclt : i < cs.length := by omega
  have hflat : (cs.set i (x.raw kx ix)).flatten = (u1 ++ (x.vals kx ix ++ u3)).map AV.c := by
    rw [set_parts hclt, List.flatten_append, List.flatten_cons, f1, f3, V.raw_eq, List.map_append, List.map_append]
  have hrl : (x.raw kx ix).length = 5 := rfl
  have h5' : ∀ z ∈ cs.set i (x.raw kx ix), z.length = 5 := fun z hz => (List.mem_or_eq_of_mem_set hz).elim (h5 z) fun e => e ▸ rfl
  have hits : u.items.length * 80 ≤ reach := by obtain ⟨k, b, t, ks, is⟩ := u; exact huw.inv.2.2.2.2.1
  have htl : TrL (V.css true (u.items.set i x)).flatten (u1 ++ (x.vals kx ix ++ u3)) (.grp [ob, .grp [.grp [okx, oix], oa]]) := by
    rw [set_parts hlt, V.css_append, List.flatten_append, V.css, List.flatten_cons]
    exact t1.append (hx.trL.append t3 (.refl _)) (.refl _)
  have hIt : Tr (.sl true false eV (V.css true (u.items.set i x))) iv (.grp [.arr iv eV (cs.set i (x.raw kx ix)), .grp [ob, .grp [.grp [okx, oix], oa]]]) :=
    items_tr hflat (by simp [hcl]) h5' (by rw [List.all_append, List.all_append, a1, hx.ones, a3]; rfl) (by simpa using hits) htl
  have hV : VTr (u.setAt i x) kv iv ok (.grp [.arr iv eV (cs.set i (x.raw kx ix)), .grp [ob, .grp [.grp [okx, oix], oa]]]) := ⟨hk1, hi1, hks, hIt⟩
  obtain ⟨kw, iw, okw, oiw, g1, g2⟩ := hL _ _ _ _ _ (V.setAt_wf huw hxw) hV
  refine ⟨kw, iw, okw, oiw, g1, Reown.trans ?_ g2⟩
  have hfold : Reown [.box b2 ((cs.take i).flatten ++ x.raw kx ix ++ ((cs.drop (i + 1)).flatten ++ sp.map AV.c))] [.arr iv eV (cs.set i (x.raw kx ix))] := by
    have he : (cs.take i).flatten ++ x.raw kx ix ++ ((cs.drop (i + 1)).flatten ++ sp.map AV.c) = (cs.set i (x.raw kx ix)).flatten ++ sp.map AV.c := by
      rw [set_parts hclt, List.flatten_append, List.flatten_cons]; simp
    have hl2 : (cs.set i (x.raw kx ix)).flatten.length = cs.flatten.length := by
      rw [flatten_length (sz := 5) _ h5', flatten_length (sz := 5) _ h5, List.length_set]
    rw [he]
    refine Reown.fold (cap := cap) (by rw [List.length_set]; exact hiv) (by rw [List.length_set]; exact hcap) h5' ?_ (List.take_left)
    rw [List.length_append, List.length_map, hl2]; exact hsz
  refine (Reown.hd (l := [okx, oix, .grp [.box b (pre ++ u.raw kv iv ++ post), ok, ob, oa, ctx]]) hfold).trans ?_
  refine ⟨fun y => by simp only [fps_cons, fps_nil, fp_grp, List.count_append, List.count_nil, List.singleton_append, V.raw, V.setAt, V.kind, V.bits, V.text]; simp only [Own.fp]; omega, fun w A h => ?_⟩
  simp only [List.forall_mem_cons, List.singleton_append, ok_grp, List.not_mem_nil, false_implies, implies_true, and_true] at h ⊢
  obtain ⟨q1, q2, q3, q4, q5, q6, q7, q8⟩ := h
  exact ⟨q4, q5, ⟨q1, q6, ⟨q2, q3⟩, q7⟩, q8⟩
/-- Where in a value one stands. -/
structure At where
  b : Nat
  off : Nat
  pre : List AV
  post : List AV
  u : V
  kv : Value
  iv : Value
  ok : Own
  oi : Own
  ctx : Own
  plug : V → V
structure At.Ok (z : At) (b0 : Nat) : Prop where
  off : z.pre.length = z.off
  tr : VTr z.u z.kv z.iv z.ok z.oi
  law : Law z.b z.pre z.post z.ctx b0 z.plug
  fine : z.u.Fine
  wf : z.u.wf
def holeC (z : At) (u : V) (kv iv : Value) : List AV := z.pre ++ u.raw kv iv ++ z.post
theorem holeC_eq (z : At) (u : V) (kv iv : Value) : holeC z u kv iv = z.pre ++ (u.raw kv iv ++ z.post) := List.append_assoc _ _ _
theorem hole_load {z : At} {u : V} {kv iv : Value} (h : z.pre.length = z.off) : ((holeC z u kv iv).drop z.off).take 5 = u.raw kv iv := by
  rw [holeC_eq, ← h, List.drop_left]
  exact List.take_left' rfl
theorem hole_at {z : At} {u : V} {kv iv : Value} (h : z.pre.length = z.off) (k : Nat) (hk : k < 5) : (holeC z u kv iv)[z.off + k]? = (u.raw kv iv)[k]? := by
  rw [holeC_eq, List.getElem?_append_right (by omega), List.getElem?_append_left (by rw [show (u.raw kv iv).length = 5 from rfl]; omega)]
  congr 1; omega
theorem splice_mid {α : Type} {a l c ys : List α} {k : Nat} (h : k + ys.length ≤ l.length) : splice (a ++ (l ++ c)) (a.length + k) ys = a ++ (splice l k ys ++ c) := by
  unfold splice
  rw [List.take_append, List.take_of_length_le (by omega), Nat.add_sub_cancel_left, List.take_append_of_le_length (by omega), Nat.add_assoc, List.drop_append, List.drop_eq_nil_of_le (by omega), List.nil_append, Nat.add_sub_cancel_left, List.drop_append_of_le_length h]
  simp
theorem hole_set {z : At} {u : V} {kv iv : Value} (h : z.pre.length = z.off) {k : Nat} {x : AV} (hk : k < 5) : splice (holeC z u kv iv) (z.off + k) [x] = z.pre ++ (splice (u.raw kv iv) k [x] ++ z.post) := by
  rw [holeC_eq, ← h, splice_mid (by rw [show (u.raw kv iv).length = 5 from rfl]; simp; omega)]
theorem hole_put {z : At} {u x : V} {kv iv kx ix : Value} (h : z.pre.length = z.off) : splice (holeC z u kv iv) z.off (x.raw kx ix) = holeC z x kx ix := by
  have := splice_mid (a := z.pre) (l := u.raw kv iv) (c := z.post) (ys := x.raw kx ix) (k := 0) (by simp [V.raw])
  rw [Nat.add_zero, h] at this
  rw [holeC_eq, this, holeC_eq]
  rfl
theorem hole_len (z : At) (u : V) (kv iv : Value) (h : z.pre.length = z.off) : (holeC z u kv iv).length = z.off + 5 + z.post.length := by
  rw [holeC_eq, List.length_append, List.length_append, show (u.raw kv iv).length = 5 from rfl]; omega
section
variable {P : Program} {E : Ent} {st : St} {t et ty : TypeId} {pos : String} {af : Array Edge} {dd : Option Tmp} {gd : Option (Nat × Bool)} {x y : Operand} {g : Bool} {n B : Nat}
/-- An element's place in a part of an own block. -/
theorem QW.index_c {b off len cap m : Nat} {k : IntKind} {i : Int} (hU : P.underlying t = some (.slice et)) (hT : tySz P et = some (g, n, B)) (hx : Ev E st x (.c (sv b off len cap))) (hi : Ev E st y (.c (.int k i))) (hm : i = (m : Int)) (hlt : m < len) :
    QW P E st ⟨dd, .indexAddr t x y, ty, pos, af, gd⟩ (.c (.pointer (some ⟨b, off + m * n, none⟩))) := .pure fun A a w hs => by
  subst hm
  refine ⟨.pointer (some ⟨b, off + m * n, none⟩), ?_, .c _⟩
  simp only [execOp, hx.eq hs, hi.eq hs, Instr.indexAt, asIntOf, Sem.run_bind, Sem.run_pure, Result.andThen_ok, run_underlying _ hU]
  rw [if_pos (by omega)]
  simp [run_sizeOf hT, add_at]
end
end Go.Proofs.Ytkiankpmkglhcaa.J

/- Items (effects on their way) and boxes of them, as plain data. -/
namespace Go.Proofs.Ytkiankpmkglhcaa.J
open Go Go.RowKit
set_option linter.unusedVariables false
set_option linter.unusedSimpArgs false
structure ItT where
  id : Int
  ev : EvT
  deriving DecidableEq
def eIt : ETy := ⟨7, 104⟩
def ItT.cs (fr : Bool) (e : ItT) : List AV := .c (.int .i64 e.id) :: e.ev.cs fr
def ItT.css (fr : Bool) (l : List ItT) : List (List AV) := l.map (ItT.cs fr)
theorem ItT.cs_length (fr : Bool) (e : ItT) : (e.cs fr).length = 7 := by simp [ItT.cs, EvT.cs_length]
theorem ItT.css_length (fr : Bool) (l : List ItT) : (ItT.css fr l).length = l.length := by simp [ItT.css]
theorem ItT.css_get (fr : Bool) {l : List ItT} {i : Nat} {v : ItT} (h : l[i]? = some v) : (ItT.css fr l)[i]? = some (v.cs fr) := by simp [ItT.css, h]
theorem ItT.css_getE (fr : Bool) {l : List ItT} {i : Nat} (h : i < l.length) : (ItT.css fr l)[i]? = some ((l[i]).cs fr) := ItT.css_get fr (List.getElem?_eq_getElem h)
theorem ItT.css_append (fr : Bool) (a b : List ItT) : ItT.css fr (a ++ b) = ItT.css fr a ++ ItT.css fr b := by simp [ItT.css]
theorem ItT.css_sz (fr : Bool) (l : List ItT) : ∀ x ∈ ItT.css fr l, x.length = eIt.sz := by
  intro x hx
  obtain ⟨v, _, rfl⟩ := List.mem_map.1 hx
  exact ItT.cs_length fr v
def Ic (fr : Bool) (e : ItT) (ys : List AV) : Prop := ys = e.cs fr
theorem Ic.self {fr : Bool} {e : ItT} : Ic fr e (e.cs fr) := rfl
theorem Ic.mk {fr : Bool} {n : Int} {v : EvT} : Ic fr ⟨n, v⟩ (.c (.int .i64 n) :: v.cs fr) := rfl
theorem ItT.cs_fl (fr : Bool) (e : ItT) : FlL (· = fr) (e.cs fr) := .cons (.c _) (EvT.cs_fl fr _)
theorem ItT.css_fl (fr : Bool) (l : List ItT) : FlL (· = fr) (ItT.css fr l).flatten := FlL.flat fun x hx => by
  obtain ⟨v, _, rfl⟩ := List.mem_map.1 hx
  exact v.cs_fl fr
theorem ItT.cs_le {F : List (Value × AV)} (fr fr' : Bool) (hf : fr' = true → fr = true) (e : ItT) : LeL F (e.cs fr) (e.cs fr') := .cons (.refl _) (EvT.cs_le fr fr' hf _)
theorem ItT.css_le {F : List (Value × AV)} (fr fr' : Bool) (hf : fr' = true → fr = true) : ∀ l : List ItT, LeL F (ItT.css fr l).flatten (ItT.css fr' l).flatten
  | [] => .nil
  | v :: r => by
    simp only [ItT.css, List.map_cons, List.flatten_cons]
    exact LeL.append (v.cs_le fr fr' hf) (ItT.css_le fr fr' hf r)
structure ItT.wf (e : ItT) : Prop where
  id : -9223372036854775808 ≤ e.id ∧ e.id ≤ 9223372036854775807
  ev : e.ev.wf
def ItT.wfs (l : List ItT) : Prop := l.length * 104 ≤ reach ∧ ∀ e ∈ l, e.wf
theorem ItT.wfs_nil : ItT.wfs [] := ⟨by decide, fun _ h => by cases h⟩
theorem ItT.wfs.len {l : List ItT} (h : ItT.wfs l) : l.length ≤ 1353245080300 := by have := h.1; unfold reach at this; omega
theorem ItT.wfs.take {l : List ItT} (h : ItT.wfs l) (k : Nat) : ItT.wfs (l.take k) := ⟨Nat.le_trans (Nat.mul_le_mul_right _ (by simp; omega)) h.1, fun e he => h.2 e (List.mem_of_mem_take he)⟩
theorem ItT.wfs.drop {l : List ItT} (h : ItT.wfs l) (k : Nat) : ItT.wfs (l.drop k) := ⟨Nat.le_trans (Nat.mul_le_mul_right _ (by simp)) h.1, fun e he => h.2 e (List.mem_of_mem_drop he)⟩
def ItT.raw (e : ItT) (kv iv : Value) : List AV := .c (.int .i64 e.id) :: e.ev.raw kv iv
def ItT.vals (e : ItT) (kv iv : Value) : List Value := .int .i64 e.id :: e.ev.vals kv iv
theorem ItT.trL {e : ItT} {kv iv : Value} {ok oi : Own} (h : VTr e.ev.arg kv iv ok oi) : TrL (e.cs true) (e.vals kv iv) (.grp [ok, oi]) := .cons (.c (.refl _)) (EvT.trL h) (.drops _)
theorem ItT.ones {e : ItT} {kv iv : Value} {ok oi : Own} (h : VTr e.ev.arg kv iv ok oi) : (e.vals kv iv).all (·.oneCell') = true := by
  have := EvT.ones (e := e.ev) h
  simp only [ItT.vals, List.all_cons, this, Bool.and_true]
  rfl
structure BT where
  last : Int
  items : List ItT
  deriving DecidableEq
def BT.nil : BT := ⟨0, []⟩
def BT.cs (fr : Bool) : BT → List AV
  | ⟨a, l⟩ => [.c (.int .i64 a), .sl fr false eIt (ItT.css fr l)]
theorem BT.cs_length (fr : Bool) : ∀ q : BT, (q.cs fr).length = 2
  | ⟨_, _⟩ => rfl
structure BT.wf (q : BT) : Prop where
  l1 : -9223372036854775808 ≤ q.last ∧ q.last ≤ 9223372036854775807
  it : ItT.wfs q.items
def Bc (fr : Bool) (q : BT) (ys : List AV) : Prop := ys = q.cs fr
theorem Bc.self {fr : Bool} {q : BT} : Bc fr q (q.cs fr) := rfl
theorem Bc.mk {fr : Bool} {a : Int} {l : List ItT} : Bc fr ⟨a, l⟩ [.c (.int .i64 a), .sl fr false eIt (ItT.css fr l)] := rfl
/-! ### the page -/
def idsOk (last : Int) : Int → List ItT → Bool
  | _, [] => true
  | p, x :: r => decide (p < x.id) && decide (x.id < 32 * (last + 1)) && evOk x.ev && idsOk last x.id r
def BT.ok (q : BT) : Bool := decide (0 ≤ q.last) && decide (q.last ≤ 1099511627776) && decide (q.items.length ≤ 256) && idsOk q.last 31 q.items
def BT.err (q : BT) : Int := if q.ok then 0 else 9
def evsErr : List EvT → Int
  | [] => 0
  | e :: r => if evErr e ≠ 0 then evErr e else evsErr r
def numIt (seq : Int) : Nat → List EvT → List ItT
  | _, [] => []
  | i, e :: r => ⟨32 * seq + i, e⟩ :: numIt seq (i + 1) r
def BT.add (q : BT) (seq : Int) (l : List EvT) : BT × Int :=
  if q.ok = false then (.nil, 9) else if seq ≤ q.last then (.nil, 32) else if 1099511627776 < seq then (.nil, 4) else if 32 < l.length then (.nil, 3) else
    if evsErr l ≠ 0 then (.nil, evsErr l) else if 256 < q.items.length + l.length then (.nil, 51) else (⟨seq, q.items ++ numIt seq 0 l⟩, 0)
def BT.next (q : BT) (n : Int) : List ItT × Int :=
  if q.ok = false then ([], 9) else if n < 0 then ([], 4) else (q.items.take n.toNat, 0)
end Go.Proofs.Ytkiankpmkglhcaa.J

/- Walks: events: may one be, lists of them. -/
namespace Go.Proofs.Ytkiankpmkglhcaa.J
open Go Go.RowKit
set_option linter.unusedVariables false
set_option linter.unusedSimpArgs false
set_option maxRecDepth 10000
set_option maxHeartbeats 4000000
end Go.Proofs.Ytkiankpmkglhcaa.J

/- Walks: lists of events: are two one; copies. -/
namespace Go.Proofs.Ytkiankpmkglhcaa.J
open Go Go.RowKit
set_option linter.unusedVariables false
set_option linter.unusedSimpArgs false
set_option maxRecDepth 10000
set_option maxHeartbeats 4000000
end Go.Proofs.Ytkiankpmkglhcaa.J

/- Walks: effects and items: may one be, lists of them, copies; the box in memory of its own. -/
namespace Go.Proofs.Ytkiankpmkglhcaa.J
open Go Go.RowKit
set_option linter.unusedVariables false
set_option linter.unusedSimpArgs false
set_option maxRecDepth 10000
set_option maxHeartbeats 4000000
end Go.Proofs.Ytkiankpmkglhcaa.J

/- Walks: slices.Insert of one element, slices.Delete of one. -/
namespace Go.Proofs.Ytkiankpmkglhcaa.J
open Go Go.RowKit
set_option linter.unusedVariables false
set_option linter.unusedSimpArgs false
set_option maxRecDepth 10000
set_option maxHeartbeats 4000000
theorem overStr : ∀ u v w, (callFunc 134 #[u, v]).run Try.prog w = ((Extern.SlicesOverlaps.overlaps #[23, 23] #[4] #[u, v]).run Try.prog w).andThen fun v w' => .ok (.value v) w' := fun u v w => run_callFunc_extern (P := Try.prog) Try.func134 (by kernel_rfl) (by kernel_rfl) (by kernel_rfl) (by kernel_rfl) _ w
theorem insStr_ok {v : Value} {xs : List (List AV)} {ys : List AV} {i : Nat} {fr clip : Bool} (hi : i ≤ xs.length) (hy : ys.length = 1) (hr : (xs.length + 1) * 16 ≤ reach) : AC Try.prog 111 [.arr v eStr xs] [.c v, .c (.int .i64 (i : Int)), .sl fr clip eStr [ys]] (RetR (CloneR eStr (xs.take i ++ [ys] ++ xs.drop i))) := by
  have hr2 := hr
  unfold reach at hr2
  refine AC.of_J Try.func111 rfl Try.ntmps111 rfl fun w0 A0 => ?_
  refine J.seq ?_
  refine J.region_lit ?_
  refine JL.q rfl rfl rfl (QW.assign .const) ?_
  refine JL.nil ?_
  refine thenQ.n ?_
  refine J.seq ?_
  refine J.region_lit ?_
  refine JL.q rfl rfl rfl (QW.move (.tmp rfl)) ?_
  refine JL.q rfl rfl rfl (QW.move (.tmp rfl)) ?_
  refine JL.cutAny 0 sl23 ty9 (.tmp rfl) rfl (.tmp rfl) rfl hi rfl fun u12 => ?_
  refine JL.nil ?_
  refine thenQ.n ?_
  refine J.seq ?_
  refine J.region_lit ?_
  refine JL.q rfl rfl rfl (QW.move (.tmp rfl)) ?_
  refine JL.q rfl rfl rfl (by first | exact QW.len_sl sl23 (.tmp rfl) | exact QW.len_nil sl23 (.tmp rfl)) ?_
  refine JL.q rfl rfl rfl (QW.assign (.tmp rfl)) ?_
  refine JL.nil ?_
  refine thenQ.n ?_
  refine J.seq ?_
  refine J.seq ?_
  refine J.region_lit ?_
  refine JL.q rfl rfl rfl (QW.move (.tmp rfl)) ?_
  refine JL.q rfl rfl rfl (QW.eql (.tmp rfl) .const) ?_
  refine JL.nil ?_
  refine thenQ.n ?_
  refine J.cond (.tmp rfl) (fun c1 => absurd c1 (by simp)) (fun c1 => ?_)
  refine J.skip ?_
  refine thenQ.n ?_
  refine J.seq ?_
  refine J.region_lit ?_
  refine JL.q rfl rfl rfl (QW.move (.tmp rfl)) ?_
  refine JL.q rfl rfl rfl (QW.len_arr 0 sl23 (.tmp rfl) rfl) ?_
  refine JL.q rfl rfl rfl (QW.assign (.tmp rfl)) ?_
  refine JL.nil ?_
  refine thenQ.n ?_
  refine J.seq ?_
  refine J.seq ?_
  refine J.region_lit ?_
  refine JL.q rfl rfl rfl (QW.move (.tmp rfl)) ?_
  refine JL.q rfl rfl rfl (QW.move (.tmp rfl)) ?_
  refine JL.q rfl rfl rfl (QW.eql (.tmp rfl) (.tmp rfl)) ?_
  refine JL.nil ?_
  refine thenQ.n ?_
  refine J.cond (.tmp rfl) (fun c2 => ?_) (fun c2 => ?_)
  · skip
    obtain rfl : i = xs.length := by simp at c2; omega
    refine J.seq ?_
    refine J.region_lit ?_
    refine JL.q rfl rfl rfl (QW.move (.tmp rfl)) ?_
    refine JL.q rfl rfl rfl (QW.move (.tmp rfl)) ?_
    refine JL.append 0 sl23 el9 rfl (.tmp rfl) rfl (srcA_sl sl23 (.tmp rfl)) (by first | omega | (simp; omega)) rfl fun v25 => ?_
    refine JL.isSlice 0 rfl fun hs1 => ?_
    refine JL.q rfl rfl rfl (QW.assign (.tmp rfl)) ?_
    refine JL.nil ?_
    refine thenQ.n ?_
    refine J.ret ?_
    refine thenQ.r ?_
    exact ⟨_, selP [.p] _, _, RetEv.one rfl (REv.tmp rfl (.refl _)), rfl, sel_perm [.p] _, ⟨_, rfl, _, rfl, hs1, by simp; rfl⟩⟩
  · skip
    have hlt : i < xs.length := by simp at c2; omega
    refine J.skip ?_
    refine thenQ.n ?_
    refine J.seq ?_
    refine J.seq ?_
    refine J.lay 0 rfl (fun a0 hv hx => absurd hlt (by rw [hx]; simp)) fun b cap sp hv hcap hsz hfl => ?_
    subst hv
    have hX : xs.flatten.length = xs.length * 1 := flatten_length xs hsz
    have hBl : (xs.flatten ++ sp.map AV.c).length = (cap + 1) * 1 := by rw [List.length_append, List.length_map]; exact hfl
    refine J.region_lit ?_
    refine JL.q rfl rfl rfl (QW.move (.tmp rfl)) ?_
    refine JL.q rfl rfl rfl (QW.move (.tmp rfl)) ?_
    refine JL.q rfl rfl rfl (QW.add (.tmp rfl) (.tmp rfl) (w64n (m := xs.length + 1) (by first | rfl | omega | (simp; done) | (simp; omega)) (by omega))) ?_
    refine JL.q rfl rfl rfl (QW.move (.tmp rfl)) ?_
    refine JL.q rfl rfl rfl (QW.cap_c sl23 (.tmp rfl)) ?_
    refine JL.q rfl rfl rfl (QW.gtr (.tmp rfl) (.tmp rfl)) ?_
    refine JL.nil ?_
    refine thenQ.n ?_
    refine J.cond (.tmp rfl) (fun c3 => ?_) (fun c3 => ?_)
    · skip
      have hgr : cap + 1 < xs.length + 1 := by simp at c3; omega
      refine J.seq ?_
      refine J.region_lit ?_
      refine JL.q rfl rfl rfl (QW.move (.tmp rfl)) ?_
      refine JL.q rfl rfl rfl (QW.move (.tmp rfl)) ?_
      refine JL.q rfl rfl rfl (QW.cutH (h := i) sl23 ty9 (.tmp rfl) (.tmp rfl) rfl (by omega)) ?_
      refine JL.q rfl rfl rfl (QW.move (.tmp rfl)) ?_
      refine JL.q rfl rfl rfl (QW.move (.tmp rfl)) ?_
      refine JL.q rfl rfl rfl (QW.add (.tmp rfl) (.tmp rfl) (w64n (m := xs.length + 1) (by first | rfl | omega | (simp; done) | (simp; omega)) (by omega))) ?_
      refine JL.q rfl rfl rfl (QW.move (.tmp rfl)) ?_
      refine JL.q rfl rfl rfl (QW.sub (.tmp rfl) (.tmp rfl) (w64n (m := xs.length + 1 - i) (by omega) (by omega))) ?_
      refine JL.appMake 0 sl23 iu3 el9 rfl (.tmp rfl) rfl (.tmp rfl) (by omega) (by omega) (by show 0 + i * 1 ≤ _; rw [hBl]; omega) (by rw [show i + (xs.length + 1 - i) = xs.length + 1 by omega]; exact hr) (by unfold reach; omega) rfl fun b2 cap2 tl hc2 hhl htl => ?_
      have hNl : (((xs.flatten ++ sp.map AV.c).drop 0).take (i * 1) ++ tl).length = (cap2 + 1) * 1 := by rw [List.length_append]; exact (congrArg (· + tl.length) hhl).trans htl
      have htl2 : i * 1 + tl.length = (cap2 + 1) * 1 := htl
      have hml : (((xs.flatten ++ sp.map AV.c).drop (i * 1)).take (xs.flatten.length - i * 1)).length = xs.flatten.length - i * 1 := by rw [List.length_take, List.length_drop, hBl]; omega
      refine JL.q rfl rfl rfl (QW.assign (.tmp rfl)) ?_
      refine JL.nil ?_
      refine thenQ.n ?_
      refine J.seq ?_
      refine J.region_lit ?_
      refine JL.q rfl rfl rfl (QW.move (.tmp rfl)) ?_
      refine JL.q rfl rfl rfl (QW.move (.tmp rfl)) ?_
      refine JL.q rfl rfl rfl (QW.cutL (l := i) (off' := i * 1) sl23 ty9 (.tmp rfl) (.tmp rfl) rfl (by omega) (by omega) (by rw [if_neg (by omega)]; omega)) ?_
      refine JL.q rfl rfl rfl (QW.move (.tmp rfl)) ?_
      refine JL.copyN 0 sl23 ty9 (.tmp rfl) rfl (SrcN.one (.tmp rfl) rfl hy) (Nat.min_eq_left (by omega)) (by rw [hNl, hy]; omega) rfl ?_
      refine JL.nil ?_
      refine thenQ.n ?_
      refine J.seq ?_
      refine J.region_tailK 8 mixed (by kernel_rfl) (by kernel_rfl) (by kernel_rfl) rfl ?_
      refine .cons [] rfl rfl rfl (.q rfl (QW.move (.tmp rfl))) ?_
      refine .cons [] rfl rfl rfl (.q rfl (QW.move (.tmp rfl))) ?_
      refine .cons [] rfl rfl rfl (.q rfl (QW.move (.tmp rfl))) ?_
      refine .cons [47, 48] rfl rfl rfl (.q rfl (QW.add (.tmp rfl) (.tmp rfl) (w64n (m := i + 1) (by first | rfl | omega | (simp; done) | (simp; omega)) (by omega)))) ?_
      refine .cons [46, 49] rfl rfl rfl (.q rfl (QW.cutL (l := i + 1) (off' := i * 1 + 1) sl23 ty9 (.tmp rfl) (.tmp rfl) rfl (by omega) (by omega) (by rw [if_neg (by omega)]; omega))) ?_
      refine .cons [] rfl rfl rfl (.q rfl (QW.move (.tmp rfl))) ?_
      refine .cons [] rfl rfl rfl (.q rfl (QW.move (.tmp rfl))) ?_
      refine .cons [51, 52] rfl rfl rfl (.q rfl (QW.cutL (l := i) (off' := i * 1) sl23 ty9 (.tmp rfl) (.tmp rfl) rfl (by omega) (by omega) (by rw [if_neg (by omega)]; omega))) ?_
      refine .nil ?_
      refine JL.copyN 0 sl23 ty9 (.tmp rfl) rfl (SrcN.boxE (i2 := 1) (mm := xs.length - i) (q := xs.flatten.length - i * 1) (.tmp rfl) rfl (by omega) (Nat.le_refl _) (by rw [hBl]; omega)) (Nat.min_eq_left (by omega)) (by rw [splice_length (by rw [hNl, hy]; omega), hNl, hml]; omega) rfl ?_
      refine JL.nil ?_
      refine thenQ.n ?_
      refine J.seq ?_
      refine J.fold 0 (xs.take i ++ [ys] ++ xs.drop i) rfl (v := sv b2 0 (i + (xs.length + 1 - i)) (cap2 + 1)) (by rw [ins_len hi, show i + (xs.length + 1 - i) = xs.length + 1 by omega]) (by rw [ins_len hi]; omega) (ins_sz hsz hy) (by rw [splice_length (by rw [splice_length (by rw [hNl, hy]; omega), hNl, hml]; omega), splice_length (by rw [hNl, hy]; omega), hNl]; rfl) (by rw [ins_flen hsz hy, ins_flat hsz]; exact ins_grow (X := xs.flatten) (sp := sp.map AV.c) (tl := tl) (a := i * 1) (m := 1) (by omega) hy (by omega)) rfl ?_
      refine J.region_lit ?_
      refine JL.q rfl rfl rfl (QW.move (.tmp rfl)) ?_
      refine JL.q rfl rfl rfl (QW.assign (.tmp rfl)) ?_
      refine JL.nil ?_
      refine thenQ.n ?_
      refine J.ret ?_
      refine thenQ.r ?_
      exact ⟨_, selP [.p, .k] _, _, RetEv.one rfl (REv.tmp rfl (.refl _)), rfl, sel_perm [.p, .k] _, ⟨_, rfl, _, rfl, rfl, rfl⟩⟩
    · skip
      have hroom : xs.length + 1 ≤ cap + 1 := by simp at c3; omega
      refine J.skip ?_
      refine thenQ.n ?_
      refine J.seq ?_
      refine J.region_lit ?_
      refine JL.q rfl rfl rfl (QW.move (.tmp rfl)) ?_
      refine JL.q rfl rfl rfl (QW.move (.tmp rfl)) ?_
      refine JL.q rfl rfl rfl (QW.move (.tmp rfl)) ?_
      refine JL.q rfl rfl rfl (QW.add (.tmp rfl) (.tmp rfl) (w64n (m := xs.length + 1) (by first | rfl | omega | (simp; done) | (simp; omega)) (by omega))) ?_
      refine JL.q rfl rfl rfl (QW.cutH (h := xs.length + 1) sl23 ty9 (.tmp rfl) (.tmp rfl) rfl (by omega)) ?_
      refine JL.q rfl rfl rfl (QW.assign (.tmp rfl)) ?_
      refine JL.nil ?_
      refine thenQ.n ?_
      refine J.seq ?_
      refine J.seq ?_
      refine J.region_lit ?_
      refine JL.q rfl rfl rfl (QW.move (.tmp rfl)) ?_
      refine JL.q rfl rfl rfl (QW.move (.tmp rfl)) ?_
      refine JL.q rfl rfl rfl (QW.move (.tmp rfl)) ?_
      refine JL.q rfl rfl rfl (QW.move (.tmp rfl)) ?_
      refine JL.q rfl rfl rfl (QW.add (.tmp rfl) (.tmp rfl) (w64n (m := i + 1) (by first | rfl | omega | (simp; done) | (simp; omega)) (by omega))) ?_
      refine JL.q rfl rfl rfl (QW.cutL (l := i + 1) (off' := i * 1 + 1) sl23 ty9 (.tmp rfl) (.tmp rfl) rfl (by omega) (by omega) (by rw [if_neg (by omega)]; omega)) ?_
      refine JL.q rfl rfl rfl (QW.apart 0 sl23 ty9 overStr (.tmp rfl) (.tmp rfl) rfl (by intro h0; simp at h0; subst h0; simp at hy) (by intro h0; have := congrArg List.length h0; rw [hBl] at this; simp at this)) ?_
      refine JL.q rfl rfl rfl (QW.not (.tmp rfl)) ?_
      refine JL.nil ?_
      refine thenQ.n ?_
      refine J.cond (.tmp rfl) (fun c4 => ?_) (fun c4 => absurd c4 (by simp))
      refine J.seq ?_
      have hml : (((xs.flatten ++ sp.map AV.c).drop (i * 1)).take (xs.flatten.length - i * 1)).length = xs.flatten.length - i * 1 := by rw [List.length_take, List.length_drop, hBl]; omega
      refine J.region_tailK 8 mixed (by kernel_rfl) (by kernel_rfl) (by kernel_rfl) rfl ?_
      refine .cons [] rfl rfl rfl (.q rfl (QW.move (.tmp rfl))) ?_
      refine .cons [] rfl rfl rfl (.q rfl (QW.move (.tmp rfl))) ?_
      refine .cons [] rfl rfl rfl (.q rfl (QW.move (.tmp rfl))) ?_
      refine .cons [70, 71] rfl rfl rfl (.q rfl (QW.add (.tmp rfl) (.tmp rfl) (w64n (m := i + 1) (by first | rfl | omega | (simp; done) | (simp; omega)) (by omega)))) ?_
      refine .cons [69, 72] rfl rfl rfl (.q rfl (QW.cutL (l := i + 1) (off' := i * 1 + 1) sl23 ty9 (.tmp rfl) (.tmp rfl) rfl (by omega) (by omega) (by rw [if_neg (by omega)]; omega))) ?_
      refine .cons [] rfl rfl rfl (.q rfl (QW.move (.tmp rfl))) ?_
      refine .cons [] rfl rfl rfl (.q rfl (QW.move (.tmp rfl))) ?_
      refine .cons [74, 75] rfl rfl rfl (.q rfl (QW.cutL (l := i) (off' := i * 1) sl23 ty9 (.tmp rfl) (.tmp rfl) rfl (by omega) (by omega) (by rw [if_neg (by omega)]; omega))) ?_
      refine .nil ?_
      refine JL.copyN 0 sl23 ty9 (.tmp rfl) rfl (SrcN.boxE (i2 := 0) (mm := xs.length - i) (q := xs.flatten.length - i * 1) (.tmp rfl) rfl (by omega) (by omega) (by rw [hBl]; omega)) (by show min _ _ = _; omega) (by rw [hBl, hml]; omega) rfl ?_
      refine JL.nil ?_
      refine thenQ.n ?_
      refine J.seq ?_
      refine J.region_lit ?_
      refine JL.q rfl rfl rfl (QW.move (.tmp rfl)) ?_
      refine JL.q rfl rfl rfl (QW.move (.tmp rfl)) ?_
      refine JL.q rfl rfl rfl (QW.cutL (l := i) (off' := i * 1) sl23 ty9 (.tmp rfl) (.tmp rfl) rfl (by omega) (by omega) (by rw [if_neg (by omega)]; omega)) ?_
      refine JL.q rfl rfl rfl (QW.move (.tmp rfl)) ?_
      refine JL.copyN 0 sl23 ty9 (.tmp rfl) rfl (SrcN.one (.tmp rfl) rfl hy) (Nat.min_eq_left (by omega)) (by rw [splice_length (by rw [hBl, hml]; omega), hBl, hy]; omega) rfl ?_
      refine JL.nil ?_
      refine thenQ.n ?_
      refine J.seq ?_
      refine J.fold 0 (xs.take i ++ [ys] ++ xs.drop i) rfl (v := sv b 0 (xs.length + 1) (cap + 1)) (by rw [ins_len hi]) (by rw [ins_len hi]; omega) (ins_sz hsz hy) (by rw [splice_length (by rw [splice_length (by rw [hBl, hml]; omega), hBl, hy]; omega), splice_length (by rw [hBl, hml]; omega), hBl]; rfl) (by rw [ins_flen hsz hy, ins_flat hsz]; exact ins_shift (X := xs.flatten) (sp := sp.map AV.c) (a := i * 1) (m := 1) (by omega) hy (by rw [hBl]; omega)) rfl ?_
      refine J.region_lit ?_
      refine JL.q rfl rfl rfl (QW.move (.tmp rfl)) ?_
      refine JL.q rfl rfl rfl (QW.assign (.tmp rfl)) ?_
      refine JL.nil ?_
      refine thenQ.n ?_
      refine J.ret ?_
      refine thenQ.r ?_
      exact ⟨_, selP [.p] _, _, RetEv.one rfl (REv.tmp rfl (.refl _)), rfl, sel_perm [.p] _, ⟨_, rfl, _, rfl, rfl, rfl⟩⟩
theorem overVal : ∀ u v w, (callFunc 136 #[u, v]).run Try.prog w = ((Extern.SlicesOverlaps.overlaps #[24, 24] #[4] #[u, v]).run Try.prog w).andThen fun v w' => .ok (.value v) w' := fun u v w => run_callFunc_extern (P := Try.prog) Try.func136 (by kernel_rfl) (by kernel_rfl) (by kernel_rfl) (by kernel_rfl) _ w
theorem insVal_ok {v : Value} {xs : List (List AV)} {ys : List AV} {i : Nat} {fr clip : Bool} (hi : i ≤ xs.length) (hy : ys.length = 5) (hr : (xs.length + 1) * 80 ≤ reach) : AC Try.prog 112 [.arr v eV xs] [.c v, .c (.int .i64 (i : Int)), .sl fr clip eV [ys]] (RetR (CloneR eV (xs.take i ++ [ys] ++ xs.drop i))) := by
  have hr2 := hr
  unfold reach at hr2
  refine AC.of_J Try.func112 rfl Try.ntmps112 rfl fun w0 A0 => ?_
  refine J.seq ?_
  refine J.region_lit ?_
  refine JL.q rfl rfl rfl (QW.assign .const) ?_
  refine JL.nil ?_
  refine thenQ.n ?_
  refine J.seq ?_
  refine J.region_lit ?_
  refine JL.q rfl rfl rfl (QW.move (.tmp rfl)) ?_
  refine JL.q rfl rfl rfl (QW.move (.tmp rfl)) ?_
  refine JL.cutAny 0 sl24 ty26 (.tmp rfl) rfl (.tmp rfl) rfl hi rfl fun u12 => ?_
  refine JL.nil ?_
  refine thenQ.n ?_
  refine J.seq ?_
  refine J.region_lit ?_
  refine JL.q rfl rfl rfl (QW.move (.tmp rfl)) ?_
  refine JL.q rfl rfl rfl (by first | exact QW.len_sl sl24 (.tmp rfl) | exact QW.len_nil sl24 (.tmp rfl)) ?_
  refine JL.q rfl rfl rfl (QW.assign (.tmp rfl)) ?_
  refine JL.nil ?_
  refine thenQ.n ?_
  refine J.seq ?_
  refine J.seq ?_
  refine J.region_lit ?_
  refine JL.q rfl rfl rfl (QW.move (.tmp rfl)) ?_
  refine JL.q rfl rfl rfl (QW.eql (.tmp rfl) .const) ?_
  refine JL.nil ?_
  refine thenQ.n ?_
  refine J.cond (.tmp rfl) (fun c1 => absurd c1 (by simp)) (fun c1 => ?_)
  refine J.skip ?_
  refine thenQ.n ?_
  refine J.seq ?_
  refine J.region_lit ?_
  refine JL.q rfl rfl rfl (QW.move (.tmp rfl)) ?_
  refine JL.q rfl rfl rfl (QW.len_arr 0 sl24 (.tmp rfl) rfl) ?_
  refine JL.q rfl rfl rfl (QW.assign (.tmp rfl)) ?_
  refine JL.nil ?_
  refine thenQ.n ?_
  refine J.seq ?_
  refine J.seq ?_
  refine J.region_lit ?_
  refine JL.q rfl rfl rfl (QW.move (.tmp rfl)) ?_
  refine JL.q rfl rfl rfl (QW.move (.tmp rfl)) ?_
  refine JL.q rfl rfl rfl (QW.eql (.tmp rfl) (.tmp rfl)) ?_
  refine JL.nil ?_
  refine thenQ.n ?_
  refine J.cond (.tmp rfl) (fun c2 => ?_) (fun c2 => ?_)
  · skip
    obtain rfl : i = xs.length := by simp at c2; omega
    refine J.seq ?_
    refine J.region_lit ?_
    refine JL.q rfl rfl rfl (QW.move (.tmp rfl)) ?_
    refine JL.q rfl rfl rfl (QW.move (.tmp rfl)) ?_
    refine JL.append 0 sl24 el26 rfl (.tmp rfl) rfl (srcA_sl sl24 (.tmp rfl)) (by first | omega | (simp; omega)) rfl fun v25 => ?_
    refine JL.isSlice 0 rfl fun hs1 => ?_
    refine JL.q rfl rfl rfl (QW.assign (.tmp rfl)) ?_
    refine JL.nil ?_
    refine thenQ.n ?_
    refine J.ret ?_
    refine thenQ.r ?_
    exact ⟨_, selP [.p] _, _, RetEv.one rfl (REv.tmp rfl (.refl _)), rfl, sel_perm [.p] _, ⟨_, rfl, _, rfl, hs1, by simp; rfl⟩⟩
  · skip
    have hlt : i < xs.length := by simp at c2; omega
    refine J.skip ?_
    refine thenQ.n ?_
    refine J.seq ?_
    refine J.seq ?_
    refine J.lay 0 rfl (fun a0 hv hx => absurd hlt (by rw [hx]; simp)) fun b cap sp hv hcap hsz hfl => ?_
    subst hv
    have hX : xs.flatten.length = xs.length * 5 := flatten_length xs hsz
    have hBl : (xs.flatten ++ sp.map AV.c).length = (cap + 1) * 5 := by rw [List.length_append, List.length_map]; exact hfl
    refine J.region_lit ?_
    refine JL.q rfl rfl rfl (QW.move (.tmp rfl)) ?_
    refine JL.q rfl rfl rfl (QW.move (.tmp rfl)) ?_
    refine JL.q rfl rfl rfl (QW.add (.tmp rfl) (.tmp rfl) (w64n (m := xs.length + 1) (by first | rfl | omega | (simp; done) | (simp; omega)) (by omega))) ?_
    refine JL.q rfl rfl rfl (QW.move (.tmp rfl)) ?_
    refine JL.q rfl rfl rfl (QW.cap_c sl24 (.tmp rfl)) ?_
    refine JL.q rfl rfl rfl (QW.gtr (.tmp rfl) (.tmp rfl)) ?_
    refine JL.nil ?_
    refine thenQ.n ?_
    refine J.cond (.tmp rfl) (fun c3 => ?_) (fun c3 => ?_)
    · skip
      have hgr : cap + 1 < xs.length + 1 := by simp at c3; omega
      refine J.seq ?_
      refine J.region_lit ?_
      refine JL.q rfl rfl rfl (QW.move (.tmp rfl)) ?_
      refine JL.q rfl rfl rfl (QW.move (.tmp rfl)) ?_
      refine JL.q rfl rfl rfl (QW.cutH (h := i) sl24 ty26 (.tmp rfl) (.tmp rfl) rfl (by omega)) ?_
      refine JL.q rfl rfl rfl (QW.move (.tmp rfl)) ?_
      refine JL.q rfl rfl rfl (QW.move (.tmp rfl)) ?_
      refine JL.q rfl rfl rfl (QW.add (.tmp rfl) (.tmp rfl) (w64n (m := xs.length + 1) (by first | rfl | omega | (simp; done) | (simp; omega)) (by omega))) ?_
      refine JL.q rfl rfl rfl (QW.move (.tmp rfl)) ?_
      refine JL.q rfl rfl rfl (QW.sub (.tmp rfl) (.tmp rfl) (w64n (m := xs.length + 1 - i) (by omega) (by omega))) ?_
      refine JL.appMake 0 sl24 iu3 el26 rfl (.tmp rfl) rfl (.tmp rfl) (by omega) (by omega) (by show 0 + i * 5 ≤ _; rw [hBl]; omega) (by rw [show i + (xs.length + 1 - i) = xs.length + 1 by omega]; exact hr) (by unfold reach; omega) rfl fun b2 cap2 tl hc2 hhl htl => ?_
      have hNl : (((xs.flatten ++ sp.map AV.c).drop 0).take (i * 5) ++ tl).length = (cap2 + 1) * 5 := by rw [List.length_append]; exact (congrArg (· + tl.length) hhl).trans htl
      have htl2 : i * 5 + tl.length = (cap2 + 1) * 5 := htl
      have hml : (((xs.flatten ++ sp.map AV.c).drop (i * 5)).take (xs.flatten.length - i * 5)).length = xs.flatten.length - i * 5 := by rw [List.length_take, List.length_drop, hBl]; omega
      refine JL.q rfl rfl rfl (QW.assign (.tmp rfl)) ?_
      refine JL.nil ?_
      refine thenQ.n ?_
      refine J.seq ?_
      refine J.region_lit ?_
      refine JL.q rfl rfl rfl (QW.move (.tmp rfl)) ?_
      refine JL.q rfl rfl rfl (QW.move (.tmp rfl)) ?_
      refine JL.q rfl rfl rfl (QW.cutL (l := i) (off' := i * 5) sl24 ty26 (.tmp rfl) (.tmp rfl) rfl (by omega) (by omega) (by rw [if_neg (by omega)]; omega)) ?_
      refine JL.q rfl rfl rfl (QW.move (.tmp rfl)) ?_
      refine JL.copyN 0 sl24 ty26 (.tmp rfl) rfl (SrcN.one (.tmp rfl) rfl hy) (Nat.min_eq_left (by omega)) (by rw [hNl, hy]; omega) rfl ?_
      refine JL.nil ?_
      refine thenQ.n ?_
      refine J.seq ?_
      refine J.region_tailK 8 mixed (by kernel_rfl) (by kernel_rfl) (by kernel_rfl) rfl ?_
      refine .cons [] rfl rfl rfl (.q rfl (QW.move (.tmp rfl))) ?_
      refine .cons [] rfl rfl rfl (.q rfl (QW.move (.tmp rfl))) ?_
      refine .cons [] rfl rfl rfl (.q rfl (QW.move (.tmp rfl))) ?_
      refine .cons [47, 48] rfl rfl rfl (.q rfl (QW.add (.tmp rfl) (.tmp rfl) (w64n (m := i + 1) (by first | rfl | omega | (simp; done) | (simp; omega)) (by omega)))) ?_
      refine .cons [46, 49] rfl rfl rfl (.q rfl (QW.cutL (l := i + 1) (off' := i * 5 + 5) sl24 ty26 (.tmp rfl) (.tmp rfl) rfl (by omega) (by omega) (by rw [if_neg (by omega)]; omega))) ?_
      refine .cons [] rfl rfl rfl (.q rfl (QW.move (.tmp rfl))) ?_
      refine .cons [] rfl rfl rfl (.q rfl (QW.move (.tmp rfl))) ?_
      refine .cons [51, 52] rfl rfl rfl (.q rfl (QW.cutL (l := i) (off' := i * 5) sl24 ty26 (.tmp rfl) (.tmp rfl) rfl (by omega) (by omega) (by rw [if_neg (by omega)]; omega))) ?_
      refine .nil ?_
      refine JL.copyN 0 sl24 ty26 (.tmp rfl) rfl (SrcN.boxE (i2 := 1) (mm := xs.length - i) (q := xs.flatten.length - i * 5) (.tmp rfl) rfl (by omega) (Nat.le_refl _) (by rw [hBl]; omega)) (Nat.min_eq_left (by omega)) (by rw [splice_length (by rw [hNl, hy]; omega), hNl, hml]; omega) rfl ?_
      refine JL.nil ?_
      refine thenQ.n ?_
      refine J.seq ?_
      refine J.fold 0 (xs.take i ++ [ys] ++ xs.drop i) rfl (v := sv b2 0 (i + (xs.length + 1 - i)) (cap2 + 1)) (by rw [ins_len hi, show i + (xs.length + 1 - i) = xs.length + 1 by omega]) (by rw [ins_len hi]; omega) (ins_sz hsz hy) (by rw [splice_length (by rw [splice_length (by rw [hNl, hy]; omega), hNl, hml]; omega), splice_length (by rw [hNl, hy]; omega), hNl]; rfl) (by rw [ins_flen hsz hy, ins_flat hsz]; exact ins_grow (X := xs.flatten) (sp := sp.map AV.c) (tl := tl) (a := i * 5) (m := 5) (by omega) hy (by omega)) rfl ?_
      refine J.region_lit ?_
      refine JL.q rfl rfl rfl (QW.move (.tmp rfl)) ?_
      refine JL.q rfl rfl rfl (QW.assign (.tmp rfl)) ?_
      refine JL.nil ?_
      refine thenQ.n ?_
      refine J.ret ?_
      refine thenQ.r ?_
      exact ⟨_, selP [.p, .k] _, _, RetEv.one rfl (REv.tmp rfl (.refl _)), rfl, sel_perm [.p, .k] _, ⟨_, rfl, _, rfl, rfl, rfl⟩⟩
    · skip
      have hroom : xs.length + 1 ≤ cap + 1 := by simp at c3; omega
      refine J.skip ?_
      refine thenQ.n ?_
      refine J.seq ?_
      refine J.region_lit ?_
      refine JL.q rfl rfl rfl (QW.move (.tmp rfl)) ?_
      refine JL.q rfl rfl rfl (QW.move (.tmp rfl)) ?_
      refine JL.q rfl rfl rfl (QW.move (.tmp rfl)) ?_
      refine JL.q rfl rfl rfl (QW.add (.tmp rfl) (.tmp rfl) (w64n (m := xs.length + 1) (by first | rfl | omega | (simp; done) | (simp; omega)) (by omega))) ?_
      refine JL.q rfl rfl rfl (QW.cutH (h := xs.length + 1) sl24 ty26 (.tmp rfl) (.tmp rfl) rfl (by omega)) ?_
      refine JL.q rfl rfl rfl (QW.assign (.tmp rfl)) ?_
      refine JL.nil ?_
      refine thenQ.n ?_
      refine J.seq ?_
      refine J.seq ?_
      refine J.region_lit ?_
      refine JL.q rfl rfl rfl (QW.move (.tmp rfl)) ?_
      refine JL.q rfl rfl rfl (QW.move (.tmp rfl)) ?_
      refine JL.q rfl rfl rfl (QW.move (.tmp rfl)) ?_
      refine JL.q rfl rfl rfl (QW.move (.tmp rfl)) ?_
      refine JL.q rfl rfl rfl (QW.add (.tmp rfl) (.tmp rfl) (w64n (m := i + 1) (by first | rfl | omega | (simp; done) | (simp; omega)) (by omega))) ?_
      refine JL.q rfl rfl rfl (QW.cutL (l := i + 1) (off' := i * 5 + 5) sl24 ty26 (.tmp rfl) (.tmp rfl) rfl (by omega) (by omega) (by rw [if_neg (by omega)]; omega)) ?_
      refine JL.q rfl rfl rfl (QW.apart 0 sl24 ty26 overVal (.tmp rfl) (.tmp rfl) rfl (by intro h0; simp at h0; subst h0; simp at hy) (by intro h0; have := congrArg List.length h0; rw [hBl] at this; simp at this)) ?_
      refine JL.q rfl rfl rfl (QW.not (.tmp rfl)) ?_
      refine JL.nil ?_
      refine thenQ.n ?_
      refine J.cond (.tmp rfl) (fun c4 => ?_) (fun c4 => absurd c4 (by simp))
      refine J.seq ?_
      have hml : (((xs.flatten ++ sp.map AV.c).drop (i * 5)).take (xs.flatten.length - i * 5)).length = xs.flatten.length - i * 5 := by rw [List.length_take, List.length_drop, hBl]; omega
      refine J.region_tailK 8 mixed (by kernel_rfl) (by kernel_rfl) (by kernel_rfl) rfl ?_
      refine .cons [] rfl rfl rfl (.q rfl (QW.move (.tmp rfl))) ?_
      refine .cons [] rfl rfl rfl (.q rfl (QW.move (.tmp rfl))) ?_
      refine .cons [] rfl rfl rfl (.q rfl (QW.move (.tmp rfl))) ?_
      refine .cons [70, 71] rfl rfl rfl (.q rfl (QW.add (.tmp rfl) (.tmp rfl) (w64n (m := i + 1) (by first | rfl | omega | (simp; done) | (simp; omega)) (by omega)))) ?_
      refine .cons [69, 72] rfl rfl rfl (.q rfl (QW.cutL (l := i + 1) (off' := i * 5 + 5) sl24 ty26 (.tmp rfl) (.tmp rfl) rfl (by omega) (by omega) (by rw [if_neg (by omega)]; omega))) ?_
      refine .cons [] rfl rfl rfl (.q rfl (QW.move (.tmp rfl))) ?_
      refine .cons [] rfl rfl rfl (.q rfl (QW.move (.tmp rfl))) ?_
      refine .cons [74, 75] rfl rfl rfl (.q rfl (QW.cutL (l := i) (off' := i * 5) sl24 ty26 (.tmp rfl) (.tmp rfl) rfl (by omega) (by omega) (by rw [if_neg (by omega)]; omega))) ?_
      refine .nil ?_
      refine JL.copyN 0 sl24 ty26 (.tmp rfl) rfl (SrcN.boxE (i2 := 0) (mm := xs.length - i) (q := xs.flatten.length - i * 5) (.tmp rfl) rfl (by omega) (by omega) (by rw [hBl]; omega)) (by show min _ _ = _; omega) (by rw [hBl, hml]; omega) rfl ?_
      refine JL.nil ?_
      refine thenQ.n ?_
      refine J.seq ?_
      refine J.region_lit ?_
      refine JL.q rfl rfl rfl (QW.move (.tmp rfl)) ?_
      refine JL.q rfl rfl rfl (QW.move (.tmp rfl)) ?_
      refine JL.q rfl rfl rfl (QW.cutL (l := i) (off' := i * 5) sl24 ty26 (.tmp rfl) (.tmp rfl) rfl (by omega) (by omega) (by rw [if_neg (by omega)]; omega)) ?_
      refine JL.q rfl rfl rfl (QW.move (.tmp rfl)) ?_
      refine JL.copyN 0 sl24 ty26 (.tmp rfl) rfl (SrcN.one (.tmp rfl) rfl hy) (Nat.min_eq_left (by omega)) (by rw [splice_length (by rw [hBl, hml]; omega), hBl, hy]; omega) rfl ?_
      refine JL.nil ?_
      refine thenQ.n ?_
      refine J.seq ?_
      refine J.fold 0 (xs.take i ++ [ys] ++ xs.drop i) rfl (v := sv b 0 (xs.length + 1) (cap + 1)) (by rw [ins_len hi]) (by rw [ins_len hi]; omega) (ins_sz hsz hy) (by rw [splice_length (by rw [splice_length (by rw [hBl, hml]; omega), hBl, hy]; omega), splice_length (by rw [hBl, hml]; omega), hBl]; rfl) (by rw [ins_flen hsz hy, ins_flat hsz]; exact ins_shift (X := xs.flatten) (sp := sp.map AV.c) (a := i * 5) (m := 5) (by omega) hy (by rw [hBl]; omega)) rfl ?_
      refine J.region_lit ?_
      refine JL.q rfl rfl rfl (QW.move (.tmp rfl)) ?_
      refine JL.q rfl rfl rfl (QW.assign (.tmp rfl)) ?_
      refine JL.nil ?_
      refine thenQ.n ?_
      refine J.ret ?_
      refine thenQ.r ?_
      exact ⟨_, selP [.p] _, _, RetEv.one rfl (REv.tmp rfl (.refl _)), rfl, sel_perm [.p] _, ⟨_, rfl, _, rfl, rfl, rfl⟩⟩
end Go.Proofs.Ytkiankpmkglhcaa.J

/- Walks: the queue and the page's queue. -/
namespace Go.Proofs.Ytkiankpmkglhcaa.J
open Go Go.RowKit
set_option linter.unusedVariables false
set_option linter.unusedSimpArgs false
set_option maxRecDepth 10000
set_option maxHeartbeats 4000000
theorem QT.ok_inv {q : QT} (h : q.ok = true) : 1 ≤ q.limit ∧ q.limit ≤ 64 ∧ (q.events.length : Int) ≤ q.limit ∧ (q.events.length : Int) ≤ q.last ∧ q.last ≤ 1099511627776 ∧ q.events.all evOk = true := by
  unfold QT.ok at h; simp only [Bool.and_eq_true, decide_eq_true_eq] at h
  obtain ⟨⟨⟨⟨⟨h1, h2⟩, h3⟩, h4⟩, h5⟩, h6⟩ := h
  exact ⟨h1, h2, h3, h4, h5, h6⟩
theorem EvT.wfs.snoc {l : List EvT} {e : EvT} (h : EvT.wfs l) (he : e.wf) (hl : l.length ≤ 64) : EvT.wfs (l ++ [e]) := ⟨by simp; unfold reach; omega, fun x hx => by
  rcases List.mem_append.1 hx with hx | hx
  · exact h.2 x hx
  · simp only [List.mem_singleton] at hx; subst hx; exact he⟩
end Go.Proofs.Ytkiankpmkglhcaa.J

/- Walks: pushing and taking, by the program and by the page. -/
namespace Go.Proofs.Ytkiankpmkglhcaa.J
open Go Go.RowKit
set_option linter.unusedVariables false
set_option linter.unusedSimpArgs false
set_option maxRecDepth 10000
set_option maxHeartbeats 4000000
end Go.Proofs.Ytkiankpmkglhcaa.J

/- Walks: items: copies of their own; boxes: may one be, copies of their own, two alike. -/
namespace Go.Proofs.Ytkiankpmkglhcaa.J
open Go Go.RowKit
set_option linter.unusedVariables false
set_option linter.unusedSimpArgs false
set_option maxRecDepth 10000
set_option maxHeartbeats 4000000
end Go.Proofs.Ytkiankpmkglhcaa.J

/- Walks: may a box be, by the program and by the page; the program's copy. -/
namespace Go.Proofs.Ytkiankpmkglhcaa.J
open Go Go.RowKit
set_option linter.unusedVariables false
set_option linter.unusedSimpArgs false
set_option maxRecDepth 10000
set_option maxHeartbeats 4000000
end Go.Proofs.Ytkiankpmkglhcaa.J

/- Walks: the program's copy of a box. -/
namespace Go.Proofs.Ytkiankpmkglhcaa.J
open Go Go.RowKit
set_option linter.unusedVariables false
set_option linter.unusedSimpArgs false
set_option maxRecDepth 10000
set_option maxHeartbeats 4000000
end Go.Proofs.Ytkiankpmkglhcaa.J

/- Fields of structs that are values, elements of arrays that are values. -/
namespace Go.Proofs.Ytkiankpmkglhcaa.J
open Go Go.RowKit
set_option linter.unusedVariables false
set_option linter.unusedSimpArgs false
section
variable {P : Program} {E : Ent} {st : St} {t t' et ty : TypeId} {pos : String} {af : Array Edge} {dd : Option Tmp} {gd : Option (Nat × Bool)} {x y : Operand} {w : World} {n B : Nat}
theorem run_partA {cs : Array Value} {off : Nat} (hT : tySz P t' = some (true, n, B)) : (part t' cs off).run P w = .ok (.agg (cs.extract off (off + n))) w := by
  simp only [part, Sem.run_bind, run_isAgg hT, Result.andThen_ok, if_true, run_sizeOf hT, Sem.run_pure]
theorem Rd.part {A : Foot} {vs : Array Value} {ys : List AV} {off : Nat} (hn : vs.size = ys.length) (h : Cells w A vs 0 ys) (hle : off + n ≤ ys.length) : Rd w A (.agg (vs.extract off (off + n))) (.agg ((ys.drop off).take n)) := by
  refine .mk_agg (by simp; omega) fun k y hk => ?_
  rw [List.getElem?_take] at hk
  split at hk
  · rename_i hlt
    rw [List.getElem?_drop] at hk
    obtain ⟨u, h1, h0, h2⟩ := h _ y hk
    rw [Nat.zero_add] at h1 ⊢
    exact ⟨u, by rw [Array.getElem?_extract, if_pos (by omega)]; exact h1, h0, h2⟩
  · cases hk
/-- An element of an array's value. -/
theorem QW.indexA {ys zs : List AV} {ln m : Nat} {k : IntKind} {i : Int} (hU : P.underlying t = some (.array ln et)) (hT : tySz P et = some (true, n, B)) (h : Ev E st x (.agg ys)) (hi : Ev E st y (.c (.int k i))) (him : i = (m : Int)) (hm : m < ln) (hz : (ys.drop (m * n)).take n = zs) (hl : zs.length = n) (h0 : Nat.blt 0 n = true := by rfl) :
    QW P E st ⟨dd, .index t x y, ty, pos, af, gd⟩ (.agg zs) := .pure fun A a w hs => by
  obtain ⟨vs, hv, hn, hc⟩ := (h A a w hs).of_agg
  subst him hz
  have hlt : (m : Int) < (ln : Int) := by omega
  have hp := blt_lt h0
  refine ⟨_, by simp [execOp, Instr.index, asIntOf, asInt, hi.eq hs, run_underlying _ hU, hv, run_sizeOf hT, run_partA hT, hm], Rd.part hn hc ?_⟩
  rw [List.length_take, List.length_drop] at hl; omega
end
/-! ### appends onto a slice that is read alone and has no spare places, or onto an own array -/
section
variable {P : Program} {E : Ent} {Q : Exit → St → Prop} {n : Nat} {env : List (Nat × AV)} {own : List Own} {F : List (Value × AV)} {D : List Deferred} {ops : Array Oper} {rest : List Oper} {c : Code}
variable {A : Foot} {a : Act} {w w' : World} {t tx et ty : TypeId} {pos : String} {af : Array Edge} {d : Nat} {dd : Option Tmp} {gd : Option (Nat × Bool)} {s x : Operand}
end
section
variable {P : Program} {E : Ent} {st : St} {ty : TypeId} {pos : String} {af : Array Edge} {dd : Option Tmp} {gd : Option (Nat × Bool)} {x y z : Operand}
end
end Go.Proofs.Ytkiankpmkglhcaa.J

/- Walks: the first that wait; an event's effects. -/
namespace Go.Proofs.Ytkiankpmkglhcaa.J
open Go Go.RowKit
set_option linter.unusedVariables false
set_option linter.unusedSimpArgs false
set_option maxRecDepth 10000
set_option maxHeartbeats 4000000
theorem BT.ok_inv {q : BT} (h : q.ok = true) : 0 ≤ q.last ∧ q.last ≤ 1099511627776 ∧ q.items.length ≤ 256 ∧ idsOk q.last 31 q.items = true := by
  unfold BT.ok at h; simp only [Bool.and_eq_true, decide_eq_true_eq] at h
  exact ⟨h.1.1.1, h.1.1.2, h.1.2, h.2⟩
theorem BT.wf.take {la : Int} {l : List ItT} (h : (BT.mk la l).wf) (k : Nat) : (BT.mk la (l.take k)).wf := ⟨h.l1, h.it.take k⟩
end Go.Proofs.Ytkiankpmkglhcaa.J

/- Walks: an event's effects, by the program and by the page. -/
namespace Go.Proofs.Ytkiankpmkglhcaa.J
open Go Go.RowKit
set_option linter.unusedVariables false
set_option linter.unusedSimpArgs false
set_option maxRecDepth 10000
set_option maxHeartbeats 4000000
end Go.Proofs.Ytkiankpmkglhcaa.J

/- Walks: binary search among items; an acknowledgement. -/
namespace Go.Proofs.Ytkiankpmkglhcaa.J
open Go Go.RowKit
set_option linter.unusedVariables false
set_option linter.unusedSimpArgs false
set_option maxRecDepth 10000
set_option maxHeartbeats 4000000
theorem fdiv2 {lo hi : Nat} : ((lo : Int) + (hi : Int)).fdiv (2 ^ (min (1 : Int).toNat IntKind.u64.bits)) = (((lo + hi) / 2 : Nat) : Int) := by
  rw [show (2 : Int) ^ (min (1 : Int).toNat IntKind.u64.bits) = 2 from rfl, Int.fdiv_eq_ediv_of_nonneg _ (by decide)]
  omega
theorem nanInt_ok (n : Int) : Fn Try.prog 126 [.c (.int .i64 n)] (.c (.bool false)) := by
  refine AC.of_J Try.func126 rfl Try.ntmps126 rfl fun w0 A0 => ?_
  refine J.seq ?_
  refine J.region_lit ?_
  refine JL.q rfl rfl rfl (QW.assign .const) ?_
  refine JL.nil ?_
  refine thenQ.n ?_
  refine J.seq ?_
  refine J.region_lit ?_
  refine JL.q rfl rfl rfl (QW.move (.tmp rfl)) ?_
  refine JL.q rfl rfl rfl (QW.move (.tmp rfl)) ?_
  refine JL.q rfl rfl rfl (QW.neq (.tmp rfl) (.tmp rfl)) ?_
  refine JL.q rfl rfl rfl (QW.assign (.tmp rfl)) ?_
  refine JL.nil ?_
  refine thenQ.n ?_
  refine J.ret ?_
  exact ⟨_, selP [] _, _, RetEv.one rfl (REv.tmp rfl (.refl _)), rfl, sel_perm [] _, ⟨ret_b (by simp), rfl⟩⟩
theorem cmpInt_ok (a b : Int) : Fn Try.prog 102 [.c (.int .i64 a), .c (.int .i64 b)] (.c (.int .i64 (if a < b then -1 else if b < a then 1 else 0))) := by
  refine AC.of_J Try.func102 rfl Try.ntmps102 rfl fun w0 A0 => ?_
  refine J.seq ?_
  refine J.region_lit ?_
  refine JL.q rfl rfl rfl (QW.assign .const) ?_
  refine JL.nil ?_
  refine thenQ.n ?_
  refine J.seq ?_
  refine J.region_lit ?_
  refine JL.q rfl rfl rfl (QW.move (.tmp rfl)) ?_
  refine JL.q rfl rfl rfl (QW.call gofn126 (.cons (.tmp rfl) .nil) (nanInt_ok _)) ?_
  refine JL.q rfl rfl rfl (QW.assign (.tmp rfl)) ?_
  refine JL.nil ?_
  refine thenQ.n ?_
  refine J.seq ?_
  refine J.region_lit ?_
  refine JL.q rfl rfl rfl (QW.move (.tmp rfl)) ?_
  refine JL.q rfl rfl rfl (QW.call gofn126 (.cons (.tmp rfl) .nil) (nanInt_ok _)) ?_
  refine JL.q rfl rfl rfl (QW.assign (.tmp rfl)) ?_
  refine JL.nil ?_
  refine thenQ.n ?_
  refine J.seq ?_
  refine J.seq ?_
  refine J.region_lit ?_
  refine JL.q rfl rfl rfl (QW.move (.tmp rfl)) ?_
  refine JL.nil ?_
  refine thenQ.n ?_
  refine J.cond (.tmp rfl) (fun c1 => absurd c1 (by simp)) (fun c1 => ?_)
  refine J.skip ?_
  refine thenQ.n ?_
  refine J.seq ?_
  refine J.seq ?_
  refine J.region_lit ?_
  refine JL.q rfl rfl rfl (QW.move (.tmp rfl)) ?_
  refine JL.nil ?_
  refine thenQ.n ?_
  refine J.cond (.tmp rfl) (fun c2 => absurd c2 (by simp)) (fun c2 => ?_)
  refine J.skip ?_
  refine thenQ.n ?_
  refine J.seq ?_
  refine J.seq ?_
  refine J.region_lit ?_
  refine JL.q rfl rfl rfl (QW.move (.tmp rfl)) ?_
  refine JL.q rfl rfl rfl (QW.move (.tmp rfl)) ?_
  refine JL.q rfl rfl rfl (QW.lss (.tmp rfl) (.tmp rfl)) ?_
  refine JL.nil ?_
  refine thenQ.n ?_
  refine J.cond (.tmp rfl) (fun c3 => ?_) (fun c3 => ?_)
  · skip
    simp at c3
    refine J.seq ?_
    refine J.region_lit ?_
    refine JL.q rfl rfl rfl (QW.assign .const) ?_
    refine JL.nil ?_
    refine thenQ.n ?_
    refine J.ret ?_
    refine thenQ.r ?_
    exact ⟨_, selP [] _, _, RetEv.one rfl (REv.tmp rfl (.refl _)), rfl, sel_perm [] _, ⟨by rw [if_pos c3], rfl⟩⟩
  · skip
    simp at c3
    refine J.skip ?_
    refine thenQ.n ?_
    refine J.seq ?_
    refine J.seq ?_
    refine J.region_lit ?_
    refine JL.q rfl rfl rfl (QW.move (.tmp rfl)) ?_
    refine JL.q rfl rfl rfl (QW.move (.tmp rfl)) ?_
    refine JL.q rfl rfl rfl (QW.gtr (.tmp rfl) (.tmp rfl)) ?_
    refine JL.nil ?_
    refine thenQ.n ?_
    refine J.cond (.tmp rfl) (fun c4 => ?_) (fun c4 => ?_)
    · skip
      simp at c4
      refine J.seq ?_
      refine J.region_lit ?_
      refine JL.q rfl rfl rfl (QW.assign .const) ?_
      refine JL.nil ?_
      refine thenQ.n ?_
      refine J.ret ?_
      refine thenQ.r ?_
      exact ⟨_, selP [] _, _, RetEv.one rfl (REv.tmp rfl (.refl _)), rfl, sel_perm [] _, ⟨by rw [if_neg (by omega), if_pos (by omega)], rfl⟩⟩
    · skip
      simp at c4
      refine J.skip ?_
      refine thenQ.n ?_
      refine J.seq ?_
      refine J.region_lit ?_
      refine JL.q rfl rfl rfl (QW.assign .const) ?_
      refine JL.nil ?_
      refine thenQ.n ?_
      refine J.ret ?_
      exact ⟨_, selP [] _, _, RetEv.one rfl (REv.tmp rfl (.refl _)), rfl, sel_perm [] _, ⟨by rw [if_neg (by omega), if_neg (by omega)], rfl⟩⟩
end Go.Proofs.Ytkiankpmkglhcaa.J

/- Where two ways meet: what holds of both is told, and the rest is walked once. -/
namespace Go.Proofs.Ytkiankpmkglhcaa.J
open Go Go.RowKit
section
variable {P : Program} {E : Ent} {Q : Exit → St → Prop} {n : Nat} {env : List (Nat × AV)} {own : List Own} {F : List (Value × AV)} {D : List Deferred}
theorem J.cutK {ι : Type} {x y : Code} (ks : List Nat) (ch : ι → List (Nat × AV)) (ow : ι → List Own → List Own) (p : ι → Prop)
    (h : J P E x ⟨n, env, own, F, D⟩ (thenQ (fun s => ∃ j, p j ∧ Wk s ⟨n, ch j ++ pickEnv ks env, ow j own, F, D⟩) Q))
    (k : ∀ i, p i → J P E y ⟨n, ch i ++ pickEnv ks env, ow i own, F, D⟩ Q) : J P E (.seq x y) ⟨n, env, own, F, D⟩ Q :=
  J.seq (h.mono fun e s hq => by
    cases e <;> first | exact hq | skip
    obtain ⟨j, hj, hw⟩ := hq
    exact J.weak hw (k j hj))
end
section
variable {P : Program} {E : Ent} {st : St} {t ty : TypeId} {pos : String} {af : Array Edge} {dd : Option Tmp} {gd : Option (Nat × Bool)}
/-- An array's literal. -/
theorem QW.buildA {sz : Nat} {zc : List Value} {idx : List Nat} {l : List Operand} {zs ys : List AV} {parts : Array (Nat × Operand)} (hP : arrOf P t = some sz) (hz : zeroCells P t = some zc) (hz1 : zc.all (·.oneCell') = true)
    (hl : EvL E st l zs) (hparts : parts = (idx.zip l).toArray) (hp : zs.all AV.plain = true) (hi : idx.length = l.length) (hf : fillA (fun i => some (i * sz, sz)) (zc.map AV.c) (idx.zip (zs.map AV.cellsOf)) = some ys) :
    QW P E st ⟨dd, .build t parts, ty, pos, af, gd⟩ (.agg ys) := .pure fun A a w hs => by
  obtain ⟨ti, zv, h1, h2, h3⟩ := zero_get hz
  obtain ⟨cs', r1, r2, r3⟩ := run_fill (fun i => some (i * sz, sz)) (PartsR.of hs hl hp hi) (cs := zv.cells) (ys := zc.map AV.c) (by rw [← Array.length_toList, h3, List.length_map]) (by
    have := Cells.const (w := w) (A := A) hz1
    rw [← h3] at this ⊢
    rwa [Array.toArray_toList] at this) hf
  refine ⟨.agg cs', ?_, .mk_agg r2 r3⟩
  have hb : P.built t ((parts.map fun (i, x) => (i, a.eval x)).toList) = some cs' := by
    unfold Program.built
    unfold arrOf at hP
    cases hu : P.underlying t with
    | none => simp [hu] at hP
    | some td =>
      cases td <;> try (simp [hu] at hP; done)
      simp only [hu] at hP
      rw [Option.map_eq_some_iff] at hP
      obtain ⟨i2, g1, rfl⟩ := hP
      simp only [h1, h2, g1]
      rw [← r1, hparts]
      simp
  simp only [execOp, Sem.run_bind, run_build w t _ _ hb, Result.andThen_ok, Sem.run_pure]
/-- Two in one. -/
theorem fill_two {z0 z1 a b : List AV} {m : Nat} (h0 : z0.length = m) (h1 : z1.length = m) (ha : a.length = m) (hb : b.length = m) : fillA (fun i => some (i * m, m)) (z0 ++ z1) [(0, a), (1, b)] = some (a ++ b) := by
  have e1 : splice (z0 ++ z1) 0 a = a ++ z1 := by
    unfold splice
    rw [List.take_zero, List.nil_append, Nat.zero_add, ha, ← h0, List.drop_left]
  have e2 : splice (a ++ z1) m b = a ++ b := by
    unfold splice
    rw [← ha, List.take_left, List.drop_eq_nil_of_le (by simp; omega), List.append_nil]
  have b1 : Nat.ble m (m + m) = true := Nat.ble_eq_true_of_le (by omega)
  have b2 : Nat.ble (m + m) (m + m) = true := Nat.ble_eq_true_of_le (by omega)
  simp [fillA, ha, hb, h0, h1, e1, e2, b1, b2]
end
end Go.Proofs.Ytkiankpmkglhcaa.J

