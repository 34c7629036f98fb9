/- Walks: both walks over a value. -/
import Derived.Test.YtkiankpmkglhcaaWv2
namespace Go.Proofs.Ytkiankpmkglhcaa.J
open Go Go.RowKit
set_option linter.unusedVariables false
set_option linter.unusedSimpArgs false
set_option maxRecDepth 10000
set_option maxHeartbeats 4000000

theorem V.chks_cons {is : List V} {j : Nat} (h : j < is.length) (lev n : Int) : V.chks (is.drop j) lev n = if (V.chk is[j] (lev + 1) n).1 ≠ 0 then V.chk is[j] (lev + 1) n else V.chks (is.drop (j + 1)) lev (V.chk is[j] (lev + 1) n).2 := by
  rw [List.drop_eq_getElem_cons h, V.chks]
theorem V.depths_cons {is : List V} {j : Nat} (h : j < is.length) : V.depths (is.drop j) = max is[j].depth (V.depths (is.drop (j + 1))) := by
  rw [List.drop_eq_getElem_cons h, V.depths]
def WalkR (v : V) (lev n : Int) : AV → List Own → Prop := fun x o => o = [] ∧ ∃ p d : Int, x = .tup [.c (.int .i64 p), .c (.int .i64 d), .c (.int .i64 (v.chk lev n).1)] ∧ ((v.chk lev n).1 = 0 → p = (v.chk lev n).2 ∧ d = lev + v.depth - 1)
theorem WalkR.mk {v : V} {lev n p d e : Int} (he : e = (v.chk lev n).1) (h : (v.chk lev n).1 = 0 → p = (v.chk lev n).2 ∧ d = lev + v.depth - 1) : RetR (WalkR v lev n) (.ret (.tup [.c (.int .i64 p), .c (.int .i64 d), .c (.int .i64 e)])) [] :=
  ⟨_, rfl, rfl, p, d, by rw [he], h⟩

theorem rwalk_n  : ∀ (n : Nat) {v : V} {ys : List AV} {fr : Bool} {lev p : Int}, Vc fr v ys → v.wf → 1 ≤ lev ∧ lev ≤ 9 → 0 ≤ p ∧ p ≤ 512 → v.sz ≤ n →
    AC Try.prog 74 [] [.agg ys, .c (.int .i64 lev), .c (.int .i64 p)] (RetR (WalkR v lev p)) := by
  intro n
  induction n with
  | zero => intro v ys fr lev p hv hw hl hp h; exact absurd h (by have := V.sz_pos v; omega)
  | succ n ih =>
    intro v ys fr lev p hv hw hl hp hn
    obtain ⟨k, b, t, ks, is⟩ := v
    subst hv
    obtain ⟨-, -, -, -, hi80, -, hwi⟩ := hw.inv
    have hi64 : is.length ≤ 9223372036854775806 := by unfold reach at hi80; omega
    refine AC.of_J Try.func74 rfl Try.ntmps74 rfl fun w0 A0 => ?_
    refine J.seq ?_
    refine J.region_lit ?_
    refine JL.box_agg (.tmp rfl) rfl fun b3 => ?_
    refine JL.q rfl rfl rfl (QW.assign .const) ?_
    refine JL.q rfl rfl rfl (QW.assign .const) ?_
    refine JL.q rfl rfl rfl (QW.assign .const) ?_
    refine JL.nil ?_
    refine thenQ.n ?_
    refine J.seq ?_
    refine J.block ?_
    refine J.seq ?_
    refine J.region_lit ?_
    refine JL.q rfl rfl rfl (QW.move (.tmp rfl)) ?_
    refine JL.q rfl rfl rfl (QW.gtr (.tmp rfl) .const) ?_
    refine JL.q rfl rfl rfl (QW.assign (.tmp rfl)) ?_
    refine JL.nil ?_
    refine thenQ.n ?_
    refine J.cond (.tmp rfl) (fun c1 => ?_) (fun c1 => ?_)
    · skip
      simp at c1
      refine J.seq ?_
      refine J.region_lit ?_
      refine JL.q rfl rfl rfl (QW.move (.tmp rfl)) ?_
      refine JL.q rfl rfl rfl (QW.move (.tmp rfl)) ?_
      refine JL.q rfl rfl rfl (QW.assign (.tmp rfl)) ?_
      refine JL.q rfl rfl rfl (QW.assign (.tmp rfl)) ?_
      refine JL.q rfl rfl rfl (QW.assign .const) ?_
      refine JL.nil ?_
      refine thenQ.n ?_
      refine J.ret ?_
      refine blkQ.r ?_
      refine thenQ.r ?_
      exact ⟨_, selP [.k] _, _, RetEv.three rfl (REv.tmp rfl (.refl _)) (REv.tmp rfl (.refl _)) (REv.tmp rfl (.refl _)), rfl, sel_perm [.k] _, WalkR.mk (by simp [V.chk, c1]) (fun h => by simp [V.chk, c1] at h)⟩
    · skip
      simp at c1
      refine J.seq ?_
      refine J.region_lit ?_
      refine JL.q rfl rfl rfl (QW.move (.tmp rfl)) ?_
      refine JL.q rfl rfl rfl (QW.geq (.tmp rfl) .const) ?_
      refine JL.q rfl rfl rfl (QW.assign (.tmp rfl)) ?_
      refine JL.nil ?_
      refine thenQ.n ?_
      refine J.cond (.tmp rfl) (fun c2 => ?_) (fun c2 => ?_)
      · skip
        simp at c2
        refine J.seq ?_
        refine J.region_lit ?_
        refine JL.q rfl rfl rfl (QW.move (.tmp rfl)) ?_
        refine JL.q rfl rfl rfl (QW.move (.tmp rfl)) ?_
        refine JL.q rfl rfl rfl (QW.assign (.tmp rfl)) ?_
        refine JL.q rfl rfl rfl (QW.assign (.tmp rfl)) ?_
        refine JL.q rfl rfl rfl (QW.assign .const) ?_
        refine JL.nil ?_
        refine thenQ.n ?_
        refine J.ret ?_
        refine blkQ.r ?_
        refine thenQ.r ?_
        exact ⟨_, selP [.k] _, _, RetEv.three rfl (REv.tmp rfl (.refl _)) (REv.tmp rfl (.refl _)) (REv.tmp rfl (.refl _)), rfl, sel_perm [.k] _, WalkR.mk (by simp [V.chk, show ¬ 8 < lev by omega, c2]) (fun h => by simp [V.chk, show ¬ 8 < lev by omega, c2] at h)⟩
      · skip
        simp at c2
        refine J.seq ?_
        refine J.region_lit ?_
        refine JL.q rfl rfl rfl (by first | exact QW.load_box 0 ty26 (.tmp rfl) rfl rfl rfl | exact QW.load_box 0 ty26 (.tmp rfl) rfl (take_at (V.cs_length _ _) rfl) (V.cs_length _ _)) ?_
        refine JL.q rfl rfl rfl (QW.call gofn106 (.cons (.tmp rfl) .nil) (rpart_ok Vc.mk hw)) ?_
        refine JL.q rfl rfl rfl (QW.not (.tmp rfl)) ?_
        refine JL.q rfl rfl rfl (QW.assign (.tmp rfl)) ?_
        refine JL.nil ?_
        refine thenQ.n ?_
        refine J.cond (.tmp rfl) (fun c3 => ?_) (fun c3 => ?_)
        · skip
          simp at c3
          refine J.seq ?_
          refine J.region_lit ?_
          refine JL.q rfl rfl rfl (QW.move (.tmp rfl)) ?_
          refine JL.q rfl rfl rfl (QW.move (.tmp rfl)) ?_
          refine JL.q rfl rfl rfl (QW.assign (.tmp rfl)) ?_
          refine JL.q rfl rfl rfl (QW.assign (.tmp rfl)) ?_
          refine JL.q rfl rfl rfl (QW.assign .const) ?_
          refine JL.nil ?_
          refine thenQ.n ?_
          refine J.ret ?_
          refine blkQ.r ?_
          refine thenQ.r ?_
          exact ⟨_, selP [.k] _, _, RetEv.three rfl (REv.tmp rfl (.refl _)) (REv.tmp rfl (.refl _)) (REv.tmp rfl (.refl _)), rfl, sel_perm [.k] _, WalkR.mk (by simp [V.chk, show ¬ 8 < lev by omega, show ¬ 512 ≤ p by omega, c3]) (fun h => by simp [V.chk, show ¬ 8 < lev by omega, show ¬ 512 ≤ p by omega, c3] at h)⟩
        · skip
          simp at c3
          refine J.skip ?_
          refine blkQ.n ?_
          refine thenQ.n ?_
          refine J.seq ?_
          refine J.region_lit ?_
          refine JL.q rfl rfl rfl (QW.move (.tmp rfl)) ?_
          refine JL.q rfl rfl rfl (QW.add (.tmp rfl) .const (by first | exact w64n (by first | rfl | omega | (simp; done)) (by omega) | exact w64 (by omega) | rfl)) ?_
          refine JL.q rfl rfl rfl (QW.assign (.tmp rfl)) ?_
          refine JL.nil ?_
          refine thenQ.n ?_
          refine J.seq ?_
          refine J.region_lit ?_
          refine JL.q rfl rfl rfl (QW.move (.tmp rfl)) ?_
          refine JL.q rfl rfl rfl (QW.assign (.tmp rfl)) ?_
          refine JL.nil ?_
          refine thenQ.n ?_
          refine J.seq ?_
          refine J.seq ?_
          refine J.region_lit ?_
          refine JL.q rfl rfl rfl (QW.assign .const) ?_
          refine JL.nil ?_
          refine thenQ.n ?_
          refine J.block ?_
          have hck : V.chk (.mk k b t ks is) lev p = V.chks is lev (p + 1) := by unfold V.chk; rw [if_neg (by omega), if_neg (by omega), if_neg (by simp [c3])]
          refine J.loopK (ι := Nat × Int × Int) [1, 3] (fun ⟨j, q, e⟩ => [(10, .c (.int .i64 (j : Int))), (2, .c (.int .i64 q)), (9, .c (.int .i64 e))]) (fun _ oo => oo) (fun ⟨j, q, e⟩ => j ≤ is.length ∧ V.chks is lev (p + 1) = V.chks (is.drop j) lev q ∧ max e (lev + V.depths (is.drop j)) = lev + V.depths is ∧ (0 ≤ q ∧ q ≤ 512 ∧ lev ≤ e)) (fun ⟨j, q, e⟩ => is.length - j) ⟨0, p + 1, lev⟩ (⟨Nat.zero_le _, rfl, by have := V.depths_nonneg is; rw [List.drop_zero]; omega, by omega⟩) (Wk.re (.cons rfl (.refl _) (.cons rfl (.refl _) (.cons rfl (.refl _) (.cons rfl (.refl _) (.cons rfl (.refl _) .nil))))) (Reown.refl _) (fun _ h => by first | exact h | simp [h])) ?_
          intro ⟨j, q, e⟩ ⟨hj, hcs, hde, hq⟩
          refine J.conv (by (try simp only [stepsO, List.map_cons, List.map_nil, valO, nthO, curO, mrg, List.reverse_cons, List.reverse_nil, List.nil_append, List.cons_append, List.append_nil, List.getElem?_cons_zero, List.getElem?_cons_succ, Option.map_some, Option.getD_some, List.set_cons_zero, List.set_cons_succ, AV.cellsOf, splice_zero, splice_succ, Nat.zero_add, Nat.reduceAdd]); rfl) ?_
          refine J.seq ?_
          refine J.seq ?_
          refine J.region_lit ?_
          refine JL.q rfl rfl rfl (QW.move (.tmp rfl)) ?_
          refine JL.q rfl rfl rfl (QW.field_ptr fo26_4 (.tmp rfl) rfl) ?_
          refine JL.q rfl rfl rfl (QW.load_box1 0 ty24 (.tmp rfl) rfl rfl) ?_
          refine JL.q rfl rfl rfl (by first | exact QW.len_sl sl24 (.tmp rfl) | exact QW.len_nil sl24 (.tmp rfl)) ?_
          refine JL.q rfl rfl rfl (QW.lss (.tmp rfl) (.tmp rfl)) ?_
          refine JL.nil ?_
          refine thenQ.n ?_
          refine J.cond (.tmp rfl) (fun c4 => ?_) (fun c4 => ?_)
          · skip
            have hlt : j < is.length := by simpa [V.css_length] using c4
            refine J.skip ?_
            refine thenQ.n ?_
            refine J.seq ?_
            refine J.block ?_
            refine J.seq ?_
            refine J.region_lit ?_
            refine JL.q rfl rfl rfl (QW.field_ptr fo26_4 (.tmp rfl) rfl) ?_
            refine JL.q rfl rfl rfl (QW.load_box1 0 ty24 (.tmp rfl) rfl rfl) ?_
            refine JL.q rfl rfl rfl (QW.move (.tmp rfl)) ?_
            refine JL.q rfl rfl rfl (QW.index_sl sl24 ty26 rfl (.tmp rfl) (.tmp rfl) (by first | rfl | omega | (simp; done)) (by exact V.css_getE _ hlt)) ?_
            refine JL.q rfl rfl rfl (by first | exact QW.load_ref ty26 (.tmp rfl) rfl rfl | exact QW.load_ref ty26 (.tmp rfl) (take_at0 (V.cs_length _ _) rfl) (V.cs_length _ _)) ?_
            refine JL.q rfl rfl rfl (QW.move (.tmp rfl)) ?_
            refine JL.q rfl rfl rfl (QW.add (.tmp rfl) .const (by first | exact w64n (by first | rfl | omega | (simp; done)) (by omega) | exact w64 (by omega) | rfl)) ?_
            refine JL.q rfl rfl rfl (QW.move (.tmp rfl)) ?_
            refine JL.callRF [] gofn74 rfl Lent.nil (fun _ => (.cons (.tmp rfl) (.cons (.tmp rfl) (.cons (.tmp rfl) .nil)))) (ih (by first | exact Vc.self | exact Vc.mk) (hwi _ (List.getElem_mem _)) (by omega) (by omega) (V.sz_get hn hlt)) (.inl rfl) fun x49 o49 h49 => ?_
            obtain ⟨rfl, p49, d49, rfl, hp49⟩ := h49
            have hlt : j < is.length := by simpa [V.css_length] using c4
            refine JL.q rfl rfl rfl (QW.move (.tmp rfl)) ?_
            refine JL.q rfl rfl rfl (QW.extract (.tmp rfl) rfl) ?_
            refine JL.q rfl rfl rfl (QW.extract (.tmp rfl) rfl) ?_
            refine JL.q rfl rfl rfl (QW.extract (.tmp rfl) rfl) ?_
            refine JL.q rfl rfl rfl (QW.assign (.tmp rfl)) ?_
            refine JL.q rfl rfl rfl (QW.assign (.tmp rfl)) ?_
            refine JL.q rfl rfl rfl (QW.assign (.tmp rfl)) ?_
            refine JL.nil ?_
            refine thenQ.n ?_
            refine J.seq ?_
            refine J.seq ?_
            refine J.region_lit ?_
            refine JL.q rfl rfl rfl (QW.move (.tmp rfl)) ?_
            refine JL.q rfl rfl rfl (QW.neq (.tmp rfl) .const) ?_
            refine JL.nil ?_
            refine thenQ.n ?_
            refine J.cond (.tmp rfl) (fun c5 => ?_) (fun c5 => ?_)
            · skip
              simp at c5
              refine J.seq ?_
              refine J.region_lit ?_
              refine JL.q rfl rfl rfl (QW.move (.tmp rfl)) ?_
              refine JL.q rfl rfl rfl (QW.move (.tmp rfl)) ?_
              refine JL.q rfl rfl rfl (QW.move (.tmp rfl)) ?_
              refine JL.q rfl rfl rfl (QW.assign (.tmp rfl)) ?_
              refine JL.q rfl rfl rfl (QW.assign (.tmp rfl)) ?_
              refine JL.q rfl rfl rfl (QW.assign (.tmp rfl)) ?_
              refine JL.nil ?_
              refine thenQ.n ?_
              refine J.ret ?_
              refine thenQ.r ?_
              refine blkQ.r ?_
              refine thenQ.r ?_
              refine thenQ.r ?_
              refine blkQ.r ?_
              refine thenQ.r ?_
              rw [V.chks_cons hlt, if_pos (by simpa using c5)] at hcs
              have he := hck.trans hcs
              exact ⟨_, selP [.k] _, _, RetEv.three rfl (REv.tmp rfl (.refl _)) (REv.tmp rfl (.refl _)) (REv.tmp rfl (.refl _)), rfl, sel_perm [.k] _, WalkR.mk (by rw [he]) (fun h => absurd (by rw [he] at h; exact h) c5)⟩
            · skip
              simp at c5
              refine J.skip ?_
              refine thenQ.n ?_
              refine J.region_lit ?_
              refine JL.q rfl rfl rfl (QW.move (.tmp rfl)) ?_
              refine JL.q rfl rfl rfl (QW.move (.tmp rfl)) ?_
              refine JL.q rfl rfl rfl (QW.move (.tmp rfl)) ?_
              refine JL.q rfl rfl rfl (QW.max2 (.tmp rfl) (.tmp rfl)) ?_
              refine JL.q rfl rfl rfl (QW.assign (.tmp rfl)) ?_
              refine JL.q rfl rfl rfl (QW.assign (.tmp rfl)) ?_
              refine JL.nil ?_
              refine blkQ.n ?_
              refine thenQ.n ?_
              refine J.region_lit ?_
              refine JL.q rfl rfl rfl (QW.move (.tmp rfl)) ?_
              refine JL.q rfl rfl rfl (QW.add (.tmp rfl) .const (by first | exact w64n (by first | rfl | omega | (simp; done)) (by omega) | exact w64 (by omega) | rfl)) ?_
              refine JL.q rfl rfl rfl (QW.assign (.tmp rfl)) ?_
              refine JL.nil ?_
              refine thenQ.n ?_
              have hb := V.chk_bounds is[j] (lev + 1) q
              obtain ⟨hq1, hq2⟩ := hp49 c5
              rw [V.chks_cons hlt, if_neg (by simp [c5])] at hcs
              rw [V.depths_cons hlt] at hde
              exact ⟨⟨j + 1, p49, max e d49⟩, ⟨hlt, by rw [hcs, hq1], by omega, by omega⟩, by show is.length - (j + 1) < is.length - j; omega, Wk.re (.cons rfl (.refl _) (.cons rfl (.refl _) (.cons rfl (Le.intE (by simp only [Int.max_def]; split <;> split <;> omega)) (.cons rfl (.refl _) (.cons rfl (.refl _) .nil))))) (Reown.refl _) (fun _ h => by first | exact h | simp [h])⟩
          · skip
            have hge : is.length ≤ j := by simpa [V.css_length] using c4
            refine J.exit ?_
            refine thenQ.x ?_
            refine thenQ.x ?_
            refine blkQ.hit ?_
            refine thenQ.n ?_
            refine J.seq ?_
            refine J.region_lit ?_
            refine JL.q rfl rfl rfl (QW.move (.tmp rfl)) ?_
            refine JL.q rfl rfl rfl (QW.move (.tmp rfl)) ?_
            refine JL.q rfl rfl rfl (QW.assign (.tmp rfl)) ?_
            refine JL.q rfl rfl rfl (QW.assign (.tmp rfl)) ?_
            refine JL.q rfl rfl rfl (QW.assign .const) ?_
            refine JL.nil ?_
            refine thenQ.n ?_
            refine J.ret ?_
            obtain rfl : j = is.length := by omega
            simp only [List.drop_length, V.chks, V.depths] at hcs hde
            have he := hck.trans hcs
            exact ⟨_, selP [.k] _, _, RetEv.three rfl (REv.tmp rfl (.refl _)) (REv.tmp rfl (.refl _)) (REv.tmp rfl (.refl _)), rfl, sel_perm [.k] _, WalkR.mk (by rw [he]) (fun h => ⟨by rw [he], by unfold V.depth; omega⟩)⟩

theorem rwalk_ok {v : V} {ys : List AV} {fr : Bool} {lev p : Int} (hv : Vc fr v ys) (hw : v.wf) (hl : 1 ≤ lev ∧ lev ≤ 9) (hp : 0 ≤ p ∧ p ≤ 512) :
    AC Try.prog 74 [] [.agg ys, .c (.int .i64 lev), .c (.int .i64 p)] (RetR (WalkR v lev p)) := rwalk_n _ hv hw hl hp (Nat.le_refl _)

theorem PanR.of {e e' : Int} {Rx : AV → List Own → Prop} (h : e' = e) (hn : ¬ e = 0) : PanR (e' = 0) (.iface 28 (.int .i64 e')) Rx (.pan (.iface 28 (.int .i64 e))) [] := by
  subst h; exact .pan hn
def wk (b : Nat) (p d : Int) : Own := .box b [.c (.int .i64 p), .c (.int .i64 d)]
def errV (e : Int) : Value := .iface 28 (.int .i64 e)
def WR (v : V) (lev p d : Int) (bw : Nat) : Res → List Own → Prop := PanR ((v.chk lev p).1 = 0) (errV (v.chk lev p).1) fun x o => x = .tup [] ∧ o = [wk bw (v.chk lev p).2 (max d (lev + v.depth - 1))]

theorem walk_n  : ∀ (n : Nat) {v : V} {ys : List AV} {fr : Bool} {lev p d : Int} {bw : Nat}, Vc fr v ys → v.wf → 1 ≤ lev ∧ lev ≤ 9 → 0 ≤ p ∧ p ≤ 512 → v.sz ≤ n →
    AC Try.prog 73 [wk bw p d] [.c (.pointer (some ⟨bw, 0, none⟩)), .agg ys, .c (.int .i64 lev)] (WR v lev p d bw) := by
  intro n
  induction n with
  | zero => intro v ys fr lev p d bw hv hw hl hp h; exact absurd h (by have := V.sz_pos v; omega)
  | succ n ih =>
    intro v ys fr lev p d bw hv hw hl hp hn
    obtain ⟨k, b, t, ks, is⟩ := v
    subst hv
    obtain ⟨-, -, -, -, hi80, -, hwi⟩ := hw.inv
    have hi64 : is.length ≤ 9223372036854775806 := by unfold reach at hi80; omega
    refine AC.of_J Try.func73 rfl Try.ntmps73 rfl fun w0 A0 => ?_
    refine J.seq ?_
    refine J.region_lit ?_
    refine JL.box_agg (.tmp rfl) rfl fun b4 => ?_
    refine JL.nil ?_
    refine thenQ.n ?_
    refine J.seq ?_
    refine J.block ?_
    refine J.seq ?_
    refine J.region_lit ?_
    refine JL.q rfl rfl rfl (QW.move (.tmp rfl)) ?_
    refine JL.q rfl rfl rfl (QW.gtr (.tmp rfl) .const) ?_
    refine JL.q rfl rfl rfl (QW.assign (.tmp rfl)) ?_
    refine JL.nil ?_
    refine thenQ.n ?_
    refine J.cond (.tmp rfl) (fun c1 => ?_) (fun c1 => ?_)
    · skip
      simp at c1
      refine J.region_lit ?_
      refine JL.q rfl rfl rfl (QW.mkIface ⟨_, Try.underlying28, by intro ms h; cases h⟩ .const) ?_
      refine JL.panic (.tmp rfl) ?_
      refine blkQ.p ?_
      refine thenQ.p ?_
      exact ⟨_, selP [.k, .k] _, _, rfl, rfl, sel_perm [.k, .k] _, PanR.of (by simp [V.chk, c1]) (by decide)⟩
    · skip
      simp at c1
      refine J.seq ?_
      refine J.region_lit ?_
      refine JL.q rfl rfl rfl (QW.move (.tmp rfl)) ?_
      refine JL.q rfl rfl rfl (QW.nil_ptr (.tmp rfl)) ?_
      refine JL.q rfl rfl rfl (QW.field_ptr fo127_0 (.tmp rfl) rfl) ?_
      refine JL.q rfl rfl rfl (QW.load_box1 1 ty3 (.tmp rfl) rfl rfl) ?_
      refine JL.q rfl rfl rfl (QW.eql (.tmp rfl) .const) ?_
      refine JL.q rfl rfl rfl (QW.assign (.tmp rfl)) ?_
      refine JL.nil ?_
      refine thenQ.n ?_
      refine J.cond (.tmp rfl) (fun c2 => ?_) (fun c2 => ?_)
      · skip
        simp at c2
        refine J.region_lit ?_
        refine JL.q rfl rfl rfl (QW.mkIface ⟨_, Try.underlying28, by intro ms h; cases h⟩ .const) ?_
        refine JL.panic (.tmp rfl) ?_
        refine blkQ.p ?_
        refine thenQ.p ?_
        exact ⟨_, selP [.k, .k] _, _, rfl, rfl, sel_perm [.k, .k] _, PanR.of (by simp [V.chk, show ¬ 8 < lev by omega, show 512 ≤ p by omega]) (by decide)⟩
      · skip
        simp at c2
        refine J.seq ?_
        refine J.region_lit ?_
        refine JL.q rfl rfl rfl (by first | exact QW.load_box 0 ty26 (.tmp rfl) rfl rfl rfl | exact QW.load_box 0 ty26 (.tmp rfl) rfl (take_at (V.cs_length _ _) rfl) (V.cs_length _ _)) ?_
        refine JL.q rfl rfl rfl (QW.call gofn105 (.cons (.tmp rfl) .nil) (part_ok Vc.mk hw)) ?_
        refine JL.q rfl rfl rfl (QW.not (.tmp rfl)) ?_
        refine JL.q rfl rfl rfl (QW.assign (.tmp rfl)) ?_
        refine JL.nil ?_
        refine thenQ.n ?_
        refine J.cond (.tmp rfl) (fun c3 => ?_) (fun c3 => ?_)
        · skip
          simp at c3
          refine J.region_lit ?_
          refine JL.q rfl rfl rfl (QW.mkIface ⟨_, Try.underlying28, by intro ms h; cases h⟩ .const) ?_
          refine JL.panic (.tmp rfl) ?_
          refine blkQ.p ?_
          refine thenQ.p ?_
          exact ⟨_, selP [.k, .k] _, _, rfl, rfl, sel_perm [.k, .k] _, PanR.of (by simp [V.chk, show ¬ 8 < lev by omega, show ¬ 512 ≤ p by omega, c3]) (by decide)⟩
        · skip
          simp at c3
          refine J.skip ?_
          refine blkQ.n ?_
          refine thenQ.n ?_
          refine J.seq ?_
          refine J.region_lit ?_
          refine JL.q rfl rfl rfl (QW.move (.tmp rfl)) ?_
          refine JL.q rfl rfl rfl (QW.nil_ptr (.tmp rfl)) ?_
          refine JL.q rfl rfl rfl (QW.field_ptr fo127_0 (.tmp rfl) rfl) ?_
          refine JL.q rfl rfl rfl (QW.load_box1 1 ty3 (.tmp rfl) rfl rfl) ?_
          refine JL.q rfl rfl rfl (QW.add (.tmp rfl) .const (by first | exact w64n (by first | rfl | omega | (simp; done)) (by omega) | exact w64 (by omega) | rfl)) ?_
          refine JL.q rfl rfl rfl (QW.nil_ptr (.tmp rfl)) ?_
          refine JL.q rfl rfl rfl (QW.field_ptr fo127_0 (.tmp rfl) rfl) ?_
          refine JL.store_box 1 ty3 (.tmp rfl) rfl (.tmp rfl) (by first | rfl | assumption) rfl rfl rfl rfl ?_
          refine JL.nil ?_
          refine thenQ.n ?_
          refine J.seq ?_
          refine J.region_lit ?_
          refine JL.q rfl rfl rfl (QW.move (.tmp rfl)) ?_
          refine JL.q rfl rfl rfl (QW.move (.tmp rfl)) ?_
          refine JL.q rfl rfl rfl (QW.nil_ptr (.tmp rfl)) ?_
          refine JL.q rfl rfl rfl (QW.field_ptr fo127_1 (.tmp rfl) rfl) ?_
          refine JL.q rfl rfl rfl (QW.load_box1 1 ty3 (.tmp rfl) rfl rfl) ?_
          refine JL.q rfl rfl rfl (QW.move (.tmp rfl)) ?_
          refine JL.q rfl rfl rfl (QW.max2 (.tmp rfl) (.tmp rfl)) ?_
          refine JL.q rfl rfl rfl (QW.nil_ptr (.tmp rfl)) ?_
          refine JL.q rfl rfl rfl (QW.field_ptr fo127_1 (.tmp rfl) rfl) ?_
          refine JL.store_box 1 ty3 (.tmp rfl) rfl (.tmp rfl) (by first | rfl | assumption) rfl rfl rfl rfl ?_
          refine JL.nil ?_
          refine thenQ.n ?_
          refine J.seq ?_
          refine J.region_lit ?_
          refine JL.q rfl rfl rfl (QW.field_ptr fo26_4 (.tmp rfl) rfl) ?_
          refine JL.q rfl rfl rfl (QW.load_box1 0 ty24 (.tmp rfl) rfl rfl) ?_
          refine JL.q rfl rfl rfl (by first | exact QW.len_sl sl24 (.tmp rfl) | exact QW.len_nil sl24 (.tmp rfl)) ?_
          refine JL.q rfl rfl rfl (QW.move .const) ?_
          refine JL.nil ?_
          refine thenQ.n ?_
          refine J.block ?_
          have hck : V.chk (.mk k b t ks is) lev p = V.chks is lev (p + 1) := by unfold V.chk; rw [if_neg (by omega), if_neg (by omega), if_neg (by simp [c3])]
          refine J.loopK (ι := Nat × Int × Int) [0, 2, 41, 42] (fun ⟨j, q, e⟩ => [(43, .c (.int .i64 (j : Int)))]) (fun ⟨j, q, e⟩ oo => List.set oo 1 (wk bw q e)) (fun ⟨j, q, e⟩ => j ≤ is.length ∧ V.chks is lev (p + 1) = V.chks (is.drop j) lev q ∧ max e (lev + V.depths (is.drop j)) = max d (lev + V.depths is) ∧ (0 ≤ q ∧ q ≤ 512 ∧ lev ≤ e)) (fun ⟨j, q, e⟩ => is.length - j) ⟨0, p + 1, if lev > d then lev else d⟩ (⟨Nat.zero_le _, rfl, by have := V.depths_nonneg is; rw [List.drop_zero]; split <;> omega, by split <;> omega⟩) (Wk.re (.cons rfl (.refl _) (.cons rfl (.refl _) (.cons rfl (.refl _) (.cons rfl (.refl _) (.cons rfl (.refl _) .nil))))) (Reown.refl _) (fun _ h => by first | exact h | simp [h])) ?_
          intro ⟨j, q, e⟩ ⟨hj, hcs, hde, hq⟩
          refine J.conv (by (try simp only [stepsO, List.map_cons, List.map_nil, valO, nthO, curO, mrg, List.reverse_cons, List.reverse_nil, List.nil_append, List.cons_append, List.append_nil, List.getElem?_cons_zero, List.getElem?_cons_succ, Option.map_some, Option.getD_some, List.set_cons_zero, List.set_cons_succ, AV.cellsOf, splice_zero, splice_succ, Nat.zero_add, Nat.reduceAdd]); rfl) ?_
          refine J.seq ?_
          refine J.region_lit ?_
          refine JL.q rfl rfl rfl (QW.lss (.tmp rfl) (.tmp rfl)) ?_
          refine JL.nil ?_
          refine thenQ.n ?_
          refine J.seq ?_
          refine J.cond (.tmp rfl) (fun c4 => ?_) (fun c4 => ?_)
          · skip
            have hlt : j < is.length := by simpa [V.css_length] using c4
            refine J.skip ?_
            refine thenQ.n ?_
            refine J.seq ?_
            refine J.block ?_
            refine J.seq ?_
            refine J.region_lit ?_
            refine JL.q rfl rfl rfl (QW.index_sl sl24 ty26 rfl (.tmp rfl) (.tmp rfl) (by first | rfl | omega | (simp; done)) (by exact V.css_getE _ hlt)) ?_
            refine JL.q rfl rfl rfl (by first | exact QW.load_ref ty26 (.tmp rfl) rfl rfl | exact QW.load_ref ty26 (.tmp rfl) (take_at0 (V.cs_length _ _) rfl) (V.cs_length _ _)) ?_
            refine JL.alloc z26 rfl rfl fun b7 => ?_
            first | refine JL.store_boxF 0 ty26 (.tmp rfl) rfl (.tmp rfl) (by first | rfl | assumption) (rfl) (rfl) rfl ?_ | refine JL.store_boxF 0 ty26 (.tmp rfl) rfl (.tmp rfl) (by first | rfl | assumption) (rfl) (V.cs_length _ _) rfl ?_ | refine JL.store_boxF 0 ty26 (.tmp rfl) rfl (.tmp rfl) (by first | rfl | assumption) (V.cs_length _ _) (rfl) rfl ?_ | refine JL.store_boxF 0 ty26 (.tmp rfl) rfl (.tmp rfl) (by first | rfl | assumption) (V.cs_length _ _) (V.cs_length _ _) rfl ?_ | refine JL.store_box 0 ty26 (.tmp rfl) rfl (.tmp rfl) (by first | rfl | assumption) rfl rfl rfl rfl ?_ | refine JL.store_box 0 ty26 (.tmp rfl) rfl (.tmp rfl) (by first | rfl | assumption) (V.cs_length _ _) rfl rfl rfl ?_
            refine JL.nil ?_
            refine thenQ.n ?_
            refine J.region_lit ?_
            refine JL.q rfl rfl rfl (QW.move (.tmp rfl)) ?_
            refine JL.q rfl rfl rfl (by first | exact QW.load_box 0 ty26 (.tmp rfl) rfl rfl rfl | exact QW.load_box 0 ty26 (.tmp rfl) rfl (take_at (V.cs_length _ _) rfl) (V.cs_length _ _)) ?_
            refine JL.q rfl rfl rfl (QW.move (.tmp rfl)) ?_
            refine JL.q rfl rfl rfl (QW.add (.tmp rfl) .const (by first | exact w64n (by first | rfl | omega | (simp; done)) (by omega) | exact w64 (by omega) | rfl)) ?_
            refine JL.callPF [.k, .k, .p] gofn73 rfl Lent.nil (fun _ => (.cons (.tmp rfl) (.cons (.tmp rfl) (.cons (.tmp rfl) .nil)))) (ih (by first | exact Vc.self | exact Vc.mk) (hwi _ (List.getElem_mem _)) (by omega) (by omega) (V.sz_get hn hlt)) (.inl rfl) (fun k51 x51 o51 h51 => ?_) (fun k51 => ?_)
            rotate_left
            · skip
              refine blkQ.p ?_
              refine thenQ.p ?_
              refine thenQ.p ?_
              refine blkQ.p ?_
              rw [V.chks_cons hlt, if_pos k51] at hcs
              have he := hck.trans hcs
              exact ⟨_, selP [.k, .k] _, _, rfl, rfl, sel_perm [.k, .k] _, PanR.of (by rw [he]) k51⟩
            obtain ⟨rfl, rfl⟩ := h51
            refine JL.nil ?_
            refine blkQ.n ?_
            refine thenQ.n ?_
            refine J.region_lit ?_
            refine JL.q rfl rfl rfl (QW.add (.tmp rfl) .const (by first | exact w64n (by first | rfl | omega | (simp; done)) (by omega) | exact w64 (by omega) | rfl)) ?_
            refine JL.q rfl rfl rfl (QW.move (.tmp rfl)) ?_
            refine JL.nil ?_
            refine thenQ.n ?_
            have hb := V.chk_bounds is[j] (lev + 1) q
            rw [V.chks_cons hlt, if_neg (by simp [k51])] at hcs
            rw [V.depths_cons hlt] at hde
            exact ⟨⟨j + 1, (V.chk is[j] (lev + 1) q).2, max e (lev + 1 + is[j].depth - 1)⟩, ⟨hlt, hcs, by omega, by omega⟩, by show is.length - (j + 1) < is.length - j; omega, Wk.re (.cons rfl (.refl _) (.cons rfl (.refl _) (.cons rfl (.refl _) (.cons rfl (.refl _) (.cons rfl (.refl _) .nil))))) (Reown.dropN 1 _ rfl) (fun _ h => by first | exact h | simp [h])⟩
          · skip
            have hge : is.length ≤ j := by simpa [V.css_length] using c4
            refine J.exit ?_
            refine thenQ.x ?_
            refine thenQ.x ?_
            refine blkQ.hit ?_
            obtain rfl : j = is.length := by omega
            simp only [List.drop_length, V.chks, V.depths] at hcs hde
            have he := hck.trans hcs
            exact ⟨_, selP [.k, .p] _, _, RetEv.none rfl , rfl, sel_perm [.k, .p] _, PanR.ret (by rw [he]) ⟨rfl, by rw [he]; unfold V.depth; rw [show max d (lev + (1 + V.depths is) - 1) = e by omega]; rfl⟩⟩

end Go.Proofs.Ytkiankpmkglhcaa.J
