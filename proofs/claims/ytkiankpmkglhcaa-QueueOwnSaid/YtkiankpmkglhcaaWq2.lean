/- Walks: lists of events: are two one; copies. -/
import Derived.Test.YtkiankpmkglhcaaWq1
namespace Go.Proofs.Ytkiankpmkglhcaa.J
open Go Go.RowKit
set_option linter.unusedVariables false
set_option linter.unusedSimpArgs false
set_option maxRecDepth 10000
set_option maxHeartbeats 4000000

theorem sameEvents_ok {fr fr2 c c2 : Bool} {a b : List EvT} (ha : EvT.wfs a) (hb : EvT.wfs b) : Fn Try.prog 44 [.sl fr c eEv (EvT.css fr a), .sl fr2 c2 eEv (EvT.css fr2 b)] (.c (.bool (decide (a = b)))) := by
  have hal := ha.len
  have hbl := hb.len
  refine AC.of_J Try.func44 rfl Try.ntmps44 rfl fun w0 A0 => ?_
  refine J.seq ?_
  refine J.region_lit ?_
  refine JL.q rfl rfl rfl (QW.assign .const) ?_
  refine JL.nil ?_
  refine thenQ.n ?_
  refine J.seq ?_
  refine J.seq ?_
  refine J.region_lit ?_
  refine JL.q rfl rfl rfl (QW.move (.tmp rfl)) ?_
  refine JL.q rfl rfl rfl (by first | exact QW.len_sl sl56 (.tmp rfl) | exact QW.len_nil sl56 (.tmp rfl)) ?_
  refine JL.q rfl rfl rfl (QW.move (.tmp rfl)) ?_
  refine JL.q rfl rfl rfl (by first | exact QW.len_sl sl56 (.tmp rfl) | exact QW.len_nil sl56 (.tmp rfl)) ?_
  refine JL.q rfl rfl rfl (QW.neq (.tmp rfl) (.tmp rfl)) ?_
  refine JL.nil ?_
  refine thenQ.n ?_
  refine J.cond (.tmp rfl) (fun c1 => ?_) (fun c1 => ?_)
  · skip
    simp [EvT.css_length] at c1
    refine J.seq ?_
    refine J.region_lit ?_
    refine JL.q rfl rfl rfl (QW.assign .const) ?_
    refine JL.nil ?_
    refine thenQ.n ?_
    refine J.ret ?_
    refine thenQ.r ?_
    exact ⟨_, selP [] _, _, RetEv.one rfl (REv.tmp rfl (.refl _)), rfl, sel_perm [] _, ⟨ret_b (by simp; intro e; subst e; exact c1 rfl), rfl⟩⟩
  · skip
    have hl : a.length = b.length := by simp [EvT.css_length] at c1; omega
    refine J.skip ?_
    refine thenQ.n ?_
    refine J.seq ?_
    refine J.seq ?_
    refine J.region_lit ?_
    refine JL.q rfl rfl rfl (QW.assign .const) ?_
    refine JL.nil ?_
    refine thenQ.n ?_
    refine J.block ?_
    refine J.loopK (ι := Nat) [0, 1] (fun k => [(5, .c (.int .i64 (k : Int)))]) (fun _ oo => oo) (fun k => k ≤ a.length ∧ a.take k = b.take k) (fun k => a.length - k) 0 (⟨Nat.zero_le _, rfl⟩) (Wk.re (.cons rfl (.refl _) (.cons rfl (.refl _) (.cons rfl (.refl _) .nil))) (Reown.refl _) (fun _ h => by first | exact h | simp [h])) ?_
    intro k ⟨hk, heqs⟩
    refine J.conv (by (try simp only [stepsO, List.map_cons, List.map_nil, valO, nthO, curO, mrg, List.reverse_cons, List.reverse_nil, List.nil_append, List.cons_append, List.append_nil, List.getElem?_cons_zero, List.getElem?_cons_succ, Option.map_some, Option.getD_some, List.set_cons_zero, List.set_cons_succ, AV.cellsOf, splice_zero, splice_succ, Nat.zero_add, Nat.reduceAdd]); rfl) ?_
    refine J.seq ?_
    refine J.seq ?_
    refine J.region_lit ?_
    refine JL.q rfl rfl rfl (QW.move (.tmp rfl)) ?_
    refine JL.q rfl rfl rfl (QW.move (.tmp rfl)) ?_
    refine JL.q rfl rfl rfl (by first | exact QW.len_sl sl56 (.tmp rfl) | exact QW.len_nil sl56 (.tmp rfl)) ?_
    refine JL.q rfl rfl rfl (QW.lss (.tmp rfl) (.tmp rfl)) ?_
    refine JL.nil ?_
    refine thenQ.n ?_
    refine J.cond (.tmp rfl) (fun c2 => ?_) (fun c2 => ?_)
    · skip
      have hlt : k < a.length := by simpa [EvT.css_length] using c2
      have hlt2 : k < b.length := by omega
      refine J.skip ?_
      refine thenQ.n ?_
      refine J.seq ?_
      refine J.block ?_
      refine J.seq ?_
      refine J.region_tailK 22 mixed (by kernel_rfl) (by kernel_rfl) (by kernel_rfl) rfl ?_
      refine .cons [] rfl rfl rfl (.q rfl (QW.move (.tmp rfl))) ?_
      refine .cons [] rfl rfl rfl (.q rfl (QW.move (.tmp rfl))) ?_
      refine .cons [17, 18] rfl rfl rfl (.q rfl (QW.index_sl sl56 ty70 rfl (.tmp rfl) (.tmp rfl) (by first | rfl | omega | (simp; done)) (by first | exact EvT.css_getE _ hlt | exact EvT.css_getE _ hlt2))) ?_
      refine .cons [19] rfl rfl rfl (.q rfl (QW.field_ref fo70_0 (.tmp rfl) rfl)) ?_
      refine .cons [20] rfl rfl rfl (.q rfl (QW.load_ref1 ty9 (.tmp rfl) rfl)) ?_
      refine .cons [] rfl rfl rfl (.q rfl (QW.move (.tmp rfl))) ?_
      refine .cons [] rfl rfl rfl (.q rfl (QW.move (.tmp rfl))) ?_
      refine .cons [22, 23] rfl rfl rfl (.q rfl (QW.index_sl sl56 ty70 rfl (.tmp rfl) (.tmp rfl) (by first | rfl | omega | (simp; done)) (by first | exact EvT.css_getE _ hlt | exact EvT.css_getE _ hlt2))) ?_
      refine .cons [24] rfl rfl rfl (.q rfl (QW.field_ref fo70_0 (.tmp rfl) rfl)) ?_
      refine .cons [25] rfl rfl rfl (.q rfl (QW.load_ref1 ty9 (.tmp rfl) rfl)) ?_
      refine .cons [21, 26] rfl rfl rfl (.q rfl (QW.neq_s (.tmp rfl) (.tmp rfl))) ?_
      refine .cons [27] rfl rfl rfl (.q rfl (QW.move (.tmp rfl))) ?_
      refine .cons [28] rfl rfl rfl (.g rfl rfl rfl (fun hg => (QW.move (.tmp rfl)))) ?_
      refine .cons [28] rfl rfl rfl (.g rfl rfl rfl (fun hg => (QW.move (.tmp rfl)))) ?_
      refine .cons [29, 30, 28] rfl rfl rfl (.g rfl rfl rfl (fun hg => (QW.index_sl sl56 ty70 rfl (.when rfl hg) (.when rfl hg) (by first | rfl | omega | (simp; done)) (by first | exact EvT.css_getE _ hlt | exact EvT.css_getE _ hlt2)))) ?_
      refine .cons [31, 28] rfl rfl rfl (.g rfl rfl rfl (fun hg => (QW.field_ref fo70_1 (.when rfl hg) rfl))) ?_
      refine .cons [32, 28] rfl rfl rfl (.g rfl rfl rfl (fun hg => (by first | exact QW.load_ref ty26 (.when rfl hg) rfl rfl | exact QW.load_ref ty26 (.when rfl hg) (take_at0 (V.cs_length _ _) rfl) (V.cs_length _ _)))) ?_
      refine .cons [28] rfl rfl rfl (.g rfl rfl rfl (fun hg => (QW.move (.tmp rfl)))) ?_
      refine .cons [28] rfl rfl rfl (.g rfl rfl rfl (fun hg => (QW.move (.tmp rfl)))) ?_
      refine .cons [34, 35, 28] rfl rfl rfl (.g rfl rfl rfl (fun hg => (QW.index_sl sl56 ty70 rfl (.when rfl hg) (.when rfl hg) (by first | rfl | omega | (simp; done)) (by first | exact EvT.css_getE _ hlt | exact EvT.css_getE _ hlt2)))) ?_
      refine .cons [36, 28] rfl rfl rfl (.g rfl rfl rfl (fun hg => (QW.field_ref fo70_1 (.when rfl hg) rfl))) ?_
      refine .cons [37, 28] rfl rfl rfl (.g rfl rfl rfl (fun hg => (by first | exact QW.load_ref ty26 (.when rfl hg) rfl rfl | exact QW.load_ref ty26 (.when rfl hg) (take_at0 (V.cs_length _ _) rfl) (V.cs_length _ _)))) ?_
      refine .nil ?_
      refine JL.g rfl rfl rfl rfl rfl (fun hg => (QW.call gofn26 (.cons (.when rfl hg) (.cons (.when rfl hg) .nil)) (sameValue_ok Vc.self Vc.self (ha.2 _ (List.getElem_mem _)).arg (hb.2 _ (List.getElem_mem _)).arg))) ?_
      refine JL.g rfl rfl rfl rfl rfl (fun hg => (QW.not (.when rfl hg))) ?_
      refine JL.q rfl rfl rfl (QW.pick_or (.tmp rfl) (.tmp rfl)) ?_
      refine JL.nil ?_
      refine thenQ.n ?_
      refine J.cond (.tmp rfl) (fun c3 => ?_) (fun c3 => ?_)
      · skip
        have hne : a[k] ≠ b[k] := by
          intro e; rw [e] at c3; simp [V.same_refl] at c3
        refine J.seq ?_
        refine J.region_lit ?_
        refine JL.q rfl rfl rfl (QW.assign .const) ?_
        refine JL.nil ?_
        refine thenQ.n ?_
        refine J.ret ?_
        refine blkQ.r ?_
        refine thenQ.r ?_
        refine thenQ.r ?_
        refine blkQ.r ?_
        refine thenQ.r ?_
        exact ⟨_, selP [] _, _, RetEv.one rfl (REv.tmp rfl (.refl _)), rfl, sel_perm [] _, ⟨ret_b (by simp; intro e; subst e; exact hne rfl), rfl⟩⟩
      · skip
        have heq : a[k] = b[k] := by
          simp [V.same_iff] at c3
          cases hx : a[k]; cases hy : b[k]; rw [hx, hy] at c3; simpa using c3
        refine J.skip ?_
        refine blkQ.n ?_
        refine thenQ.n ?_
        refine J.region_lit ?_
        refine JL.q rfl rfl rfl (QW.move (.tmp rfl)) ?_
        refine JL.q rfl rfl rfl (QW.add (.tmp rfl) .const (by first | exact w64n (by first | rfl | omega | (simp; done)) (by omega) | exact w64 (by omega) | rfl)) ?_
        refine JL.q rfl rfl rfl (QW.assign (.tmp rfl)) ?_
        refine JL.nil ?_
        refine thenQ.n ?_
        exact ⟨k + 1, ⟨hlt, (list_split hl heqs hlt).2 heq⟩, by omega, Wk.re (.cons rfl (.refl _) (.cons rfl (.refl _) (.cons rfl (.refl _) .nil))) (Reown.refl _) (fun _ h => by first | exact h | simp [h])⟩
    · skip
      have hge : a.length ≤ k := by simpa [EvT.css_length] using c2
      refine J.exit ?_
      refine thenQ.x ?_
      refine thenQ.x ?_
      refine blkQ.hit ?_
      refine thenQ.n ?_
      refine J.seq ?_
      refine J.region_lit ?_
      refine JL.q rfl rfl rfl (QW.assign .const) ?_
      refine JL.nil ?_
      refine thenQ.n ?_
      refine J.ret ?_
      exact ⟨_, selP [] _, _, RetEv.one rfl (REv.tmp rfl (.refl _)), rfl, sel_perm [] _, ⟨ret_b (by simp; rw [List.take_of_length_le hge, List.take_of_length_le (by omega)] at heqs; exact heqs), rfl⟩⟩

theorem copyEvents_ok {fr c : Bool} {l : List EvT} (hl : EvT.wfs l) : AC Try.prog 88 [] [.sl fr c eEv (EvT.css fr l)] (RetR (EvsR l)) := by
  have hlen := hl.len
  have hl1 := hl.1
  refine AC.of_J Try.func88 rfl Try.ntmps88 rfl fun w0 A0 => ?_
  refine J.seq ?_
  refine J.region_lit ?_
  refine JL.q rfl rfl rfl (QW.assign .const) ?_
  refine JL.nil ?_
  refine thenQ.n ?_
  refine J.seq ?_
  refine J.region_lit ?_
  refine JL.q rfl rfl rfl (QW.assign .const) ?_
  refine JL.nil ?_
  refine thenQ.n ?_
  refine J.seq ?_
  refine J.seq ?_
  refine J.region_lit ?_
  refine JL.q rfl rfl rfl (QW.assign .const) ?_
  refine JL.nil ?_
  refine thenQ.n ?_
  refine J.block ?_
  refine J.reown (Reown.nilArrE eEv _) ?_
  refine J.reown (Reown.nilGrpE _) ?_
  refine J.loopK (ι := Nat × Value × List (List AV) × List Value × Own) [0, 2] (fun ⟨j, v, cs, us, o⟩ => [(4, .c (.int .i64 (j : Int))), (3, .c v)]) (fun ⟨j, v, cs, us, o⟩ oo => List.set (List.set oo 0 (.arr v eEv cs)) 1 (o)) (fun ⟨j, v, cs, us, o⟩ => j ≤ l.length ∧ ListTr eEv (EvT.css true (l.take j)) cs us o) (fun ⟨j, v, cs, us, o⟩ => l.length - j) ⟨0, .slice none 0 0, [], [], .grp []⟩ (⟨Nat.zero_le _, .nil _⟩) (Wk.re (.cons rfl (.refl _) (.cons rfl (.refl _) (.cons rfl (.refl _) (.cons rfl (.refl _) .nil)))) (Reown.refl _) (fun _ h => by first | exact h | simp [h])) ?_
  intro ⟨j, v, cs, us, o⟩ ⟨hj, hK⟩
  refine J.conv (by (try simp only [stepsO, List.map_cons, List.map_nil, valO, nthO, curO, mrg, List.reverse_cons, List.reverse_nil, List.nil_append, List.cons_append, List.append_nil, List.getElem?_cons_zero, List.getElem?_cons_succ, Option.map_some, Option.getD_some, List.set_cons_zero, List.set_cons_succ, AV.cellsOf, splice_zero, splice_succ, Nat.zero_add, Nat.reduceAdd]); rfl) ?_
  refine J.seq ?_
  refine J.seq ?_
  refine J.region_lit ?_
  refine JL.q rfl rfl rfl (QW.move (.tmp rfl)) ?_
  refine JL.q rfl rfl rfl (QW.move (.tmp rfl)) ?_
  refine JL.q rfl rfl rfl (by first | exact QW.len_sl sl56 (.tmp rfl) | exact QW.len_nil sl56 (.tmp rfl)) ?_
  refine JL.q rfl rfl rfl (QW.lss (.tmp rfl) (.tmp rfl)) ?_
  refine JL.nil ?_
  refine thenQ.n ?_
  refine J.cond (.tmp rfl) (fun c1 => ?_) (fun c1 => ?_)
  · skip
    have hlt : j < l.length := by simpa [EvT.css_length] using c1
    refine J.skip ?_
    refine thenQ.n ?_
    refine J.seq ?_
    refine J.block ?_
    refine J.region_outK 14 3 (fun os_ ow_ x_ o_ => match os_ with | [] => (∃ o2_, (CopyR (l[j]'hlt).arg) x_ o2_ ∧ o_ = mrg [] o2_ ow_) | [(x0_, _)] => (x_ = .agg (.c (str l[j].name) :: x0_.cellsOf) ∧ o_ = ow_) | [(x1_, _), (x0_, _)] => (x_ = .sl true true eEv [x1_.cellsOf] ∧ o_ = ow_) | _ => False) mixed (by kernel_rfl) (by kernel_rfl) (by kernel_rfl) rfl ?_
    refine OutK.quiet [] rfl rfl rfl (fun qs_ qv_ ql_ => (.q rfl (QW.move (.tmp rfl)))) ?_
    refine OutK.quiet [] rfl rfl rfl (fun qs_ qv_ ql_ => (.q rfl (QW.move (.tmp rfl)))) ?_
    refine OutK.quiet [] rfl rfl rfl (fun qs_ qv_ ql_ => (.q rfl (QW.move (.tmp rfl)))) ?_
    refine OutK.quiet [12, 13] rfl rfl rfl (fun qs_ qv_ ql_ => (.q rfl (QW.index_sl sl56 ty70 rfl (.tmp rfl) (.tmp rfl) (by first | rfl | omega | (simp; done)) (by exact EvT.css_getE _ hlt)))) ?_
    refine OutK.quiet [14] rfl rfl rfl (fun qs_ qv_ ql_ => (.q rfl (QW.field_ref fo70_0 (.tmp rfl) rfl))) ?_
    refine OutK.quiet [15] rfl rfl rfl (fun qs_ qv_ ql_ => (.q rfl (QW.load_ref1 ty9 (.tmp rfl) rfl))) ?_
    refine OutK.quiet [] rfl rfl rfl (fun qs_ qv_ ql_ => (.q rfl (QW.move (.tmp rfl)))) ?_
    refine OutK.quiet [] rfl rfl rfl (fun qs_ qv_ ql_ => (.q rfl (QW.move (.tmp rfl)))) ?_
    refine OutK.quiet [17, 18] rfl rfl rfl (fun qs_ qv_ ql_ => (.q rfl (QW.index_sl sl56 ty70 rfl (.tmp rfl) (.tmp rfl) (by first | rfl | omega | (simp; done)) (by exact EvT.css_getE _ hlt)))) ?_
    refine OutK.quiet [19] rfl rfl rfl (fun qs_ qv_ ql_ => (.q rfl (QW.field_ref fo70_1 (.tmp rfl) rfl))) ?_
    refine OutK.quiet [20] rfl rfl rfl (fun qs_ qv_ ql_ => (.q rfl (by first | exact QW.load_ref ty26 (.tmp rfl) rfl rfl | exact QW.load_ref ty26 (.tmp rfl) (take_at0 (V.cs_length _ _) rfl) (V.cs_length _ _)))) ?_
    refine OutK.loud [21] rfl rfl rfl rfl rfl (fun qs_ qv_ ql_ => by
        obtain rfl : qs_ = [] := List.length_eq_zero_iff.1 ql_
        exact LStepR.callRF (d := 22) [] gofn20 Lent.nil (fun _ => (.cons (.tmp rfl) .nil)) (copyValue_ok Vc.self (hl.2 _ (List.getElem_mem hlt)).arg) (.inl rfl)) ?_
    refine OutK.loud [16, 22] rfl rfl rfl rfl rfl (fun qs_ qv_ ql_ => by
        obtain ⟨⟨y0, p0⟩, qs_, rfl⟩ : ∃ p t, qs_ = p :: t := by (cases qs_ with | nil => simp at ql_ | cons p t => exact ⟨p, t, rfl⟩)
        obtain rfl : qs_ = [] := List.length_eq_zero_iff.1 (by simpa using ql_)
        obtain ⟨hr0, _⟩ := qv_
        obtain ⟨o22, ⟨kv22, iv22, ok22, oi22, rfl, rfl, hV22⟩, rfl⟩ := hr0
        exact LStepR.ofQ (QW.build (idx := [0, 1]) pl70 z70 rfl (.cons (.tmp rfl) (.cons (.tmp rfl) .nil)) rfl rfl rfl rfl) ⟨rfl, rfl⟩) ?_
    refine OutK.loud [23] rfl rfl rfl rfl rfl (fun qs_ qv_ ql_ => by
        obtain ⟨⟨y1, p1⟩, qs_, rfl⟩ : ∃ p t, qs_ = p :: t := by (cases qs_ with | nil => simp at ql_ | cons p t => exact ⟨p, t, rfl⟩)
        simp only [List.length_cons, Nat.add_right_cancel_iff] at ql_
        obtain ⟨⟨y0, p0⟩, qs_, rfl⟩ : ∃ p t, qs_ = p :: t := by (cases qs_ with | nil => simp at ql_ | cons p t => exact ⟨p, t, rfl⟩)
        obtain rfl : qs_ = [] := List.length_eq_zero_iff.1 (by simpa using ql_)
        obtain ⟨hr1, hr0, _⟩ := qv_
        obtain ⟨o22, ⟨kv22, iv22, ok22, oi22, rfl, rfl, hV22⟩, rfl⟩ := hr0
        obtain ⟨rfl, rfl⟩ := hr1
        exact LStepR.ofQ (QW.buildSlice (idx := [0]) (xs := [(l[j]).raw kv22 iv22]) sl56 el70 z70 rfl (.cons (.tmp rfl) .nil) rfl rfl rfl rfl rfl rfl rfl rfl rfl) ⟨rfl, rfl⟩) ?_
    refine .nil fun qs_ qv_ ql_ => ?_
    obtain ⟨⟨y2, p2⟩, qs_, rfl⟩ : ∃ p t, qs_ = p :: t := by (cases qs_ with | nil => simp at ql_ | cons p t => exact ⟨p, t, rfl⟩)
    simp only [List.length_cons, Nat.add_right_cancel_iff] at ql_
    obtain ⟨⟨y1, p1⟩, qs_, rfl⟩ : ∃ p t, qs_ = p :: t := by (cases qs_ with | nil => simp at ql_ | cons p t => exact ⟨p, t, rfl⟩)
    simp only [List.length_cons, Nat.add_right_cancel_iff] at ql_
    obtain ⟨⟨y0, p0⟩, qs_, rfl⟩ : ∃ p t, qs_ = p :: t := by (cases qs_ with | nil => simp at ql_ | cons p t => exact ⟨p, t, rfl⟩)
    obtain rfl : qs_ = [] := List.length_eq_zero_iff.1 (by simpa using ql_)
    obtain ⟨hr2, hr1, hr0, _⟩ := qv_
    obtain ⟨o22, ⟨kv22, iv22, ok22, oi22, rfl, rfl, hV22⟩, rfl⟩ := hr0
    obtain ⟨rfl, rfl⟩ := hr1
    obtain ⟨rfl, rfl⟩ := hr2
    refine JL.conv (by (try simp only [stepsO, List.map_cons, List.map_nil, valO, nthO, curO, mrg, List.reverse_cons, List.reverse_nil, List.nil_append, List.cons_append, List.append_nil, List.getElem?_cons_zero, List.getElem?_cons_succ, Option.map_some, Option.getD_some, List.set_cons_zero, List.set_cons_succ, AV.cellsOf, splice_zero, splice_succ, Nat.zero_add, Nat.reduceAdd]); rfl) ?_
    refine JL.append 0 sl56 el70 rfl (.tmp rfl) rfl (srcA_sl sl56 (.tmp rfl)) (by have := hK.h2; rw [EvT.css_length, List.length_take] at this; simp; unfold reach at *; omega) rfl fun v25 => ?_
    refine JL.q rfl rfl rfl (QW.assign (.tmp rfl)) ?_
    refine JL.nil ?_
    refine blkQ.n ?_
    refine thenQ.n ?_
    refine J.region_lit ?_
    refine JL.q rfl rfl rfl (QW.move (.tmp rfl)) ?_
    refine JL.q rfl rfl rfl (QW.add (.tmp rfl) .const (by first | exact w64n (by first | rfl | omega | (simp; done)) (by omega) | exact w64 (by omega) | rfl)) ?_
    refine JL.q rfl rfl rfl (QW.assign (.tmp rfl)) ?_
    refine JL.nil ?_
    refine thenQ.n ?_
    exact ⟨⟨j + 1, _, _, _, _⟩, ⟨hlt, by rw [List.take_succ_eq_append_getElem hlt]; exact hK.snocE hV22⟩, by show l.length - (j + 1) < l.length - j; omega, Wk.re (.cons rfl (.refl _) (.cons rfl (.refl _) (.cons rfl (.refl _) (.cons rfl (.refl _) .nil)))) ((Reown.cons (Reown.tri _ _ _ _))) (fun _ h => by first | exact h | simp [h])⟩
  · skip
    have hge : l.length ≤ j := by simpa [EvT.css_length] using c1
    refine J.exit ?_
    refine thenQ.x ?_
    refine thenQ.x ?_
    refine blkQ.hit ?_
    refine thenQ.n ?_
    refine J.seq ?_
    refine J.isSlice 0 rfl fun hs1 => ?_
    refine J.reown (Reown.grp2 _ _ _) ?_
    refine J.region_lit ?_
    refine JL.q rfl rfl rfl (QW.move (.tmp rfl)) ?_
    refine JL.q rfl rfl rfl (QW.assign (.tmp rfl)) ?_
    refine JL.nil ?_
    refine thenQ.n ?_
    refine J.ret ?_
    obtain rfl : j = l.length := by omega
    rw [List.take_length] at hK
    exact ⟨_, selP [.p] _, _, RetEv.one rfl (REv.tmp rfl (.refl _)), rfl, sel_perm [.p] _, ⟨_, rfl, _, _, rfl, hs1, rfl, hK.tr (by rw [EvT.css_length]; exact hl1)⟩⟩

theorem Fn.ofEvs {P : Program} {f : FuncId} {xs : List AV} {l : List EvT} (h : AC P f [] xs (RetR (EvsR l))) : Fn P f xs (evsAV l) :=
  Fn.close h fun x o ⟨v, ov, hx, _, ho, hT⟩ => by
    subst hx ho
    refine ⟨[(v, .sl true false eEv (EvT.css true l))], fun w A hok hb p hp => ?_, .fact (x := .sl true false eEv (EvT.css true l)) (by simp) (.refl _)⟩
    simp only [List.mem_singleton] at hp
    subst hp
    exact hT.rd (hok _ (by simp)) fun b hb' => hb b (by simpa [fps_cons, fps_nil] using hb') true
theorem copyEvents_rd {fr c : Bool} {l : List EvT} (hl : EvT.wfs l) : Fn Try.prog 88 [.sl fr c eEv (EvT.css fr l)] (evsAV l) := .ofEvs (copyEvents_ok hl)

end Go.Proofs.Ytkiankpmkglhcaa.J
