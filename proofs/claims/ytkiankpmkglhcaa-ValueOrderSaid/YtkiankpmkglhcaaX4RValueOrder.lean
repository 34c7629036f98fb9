/- Texts of this proof, laid together. -/
import Derived.Test.YtkiankpmkglhcaaX3RValueOrder
/- Walks: steps into values: what is found, what is got. -/
namespace Go.Proofs.Ytkiankpmkglhcaa.J
open Go Go.RowKit
set_option linter.unusedVariables false
set_option linter.unusedSimpArgs false
set_option maxRecDepth 10000
set_option maxHeartbeats 4000000
theorem nanStr_ok (s : Str) : Fn Try.prog 133 [.c (str s)] (.c (.bool false)) := by
  refine AC.of_J Try.func133 rfl Try.ntmps133 rfl fun w0 A0 => ?_
  refine J.seq ?_
  refine J.region_lit ?_
  refine JL.q rfl rfl rfl (QW.assign .const) ?_
  refine JL.nil ?_
  refine thenQ.n ?_
  refine J.seq ?_
  refine J.region_lit ?_
  refine JL.q rfl rfl rfl (QW.move (.tmp rfl)) ?_
  refine JL.q rfl rfl rfl (QW.move (.tmp rfl)) ?_
  refine JL.q rfl rfl rfl (QW.neq_s (.tmp rfl) (.tmp rfl)) ?_
  refine JL.q rfl rfl rfl (QW.assign (.tmp rfl)) ?_
  refine JL.nil ?_
  refine thenQ.n ?_
  refine J.ret ?_
  exact ⟨_, selP [] _, _, RetEv.one rfl (REv.tmp rfl (.refl _)), rfl, sel_perm [] _, ⟨ret_b (by simp), rfl⟩⟩
theorem cnanStr_ok (s : Str) : Fn Try.prog 140 [.c (str s)] (.c (.bool false)) := by
  refine AC.of_J Try.func140 rfl Try.ntmps140 rfl fun w0 A0 => ?_
  refine J.seq ?_
  refine J.region_lit ?_
  refine JL.q rfl rfl rfl (QW.assign .const) ?_
  refine JL.nil ?_
  refine thenQ.n ?_
  refine J.seq ?_
  refine J.region_lit ?_
  refine JL.q rfl rfl rfl (QW.move (.tmp rfl)) ?_
  refine JL.q rfl rfl rfl (QW.move (.tmp rfl)) ?_
  refine JL.q rfl rfl rfl (QW.neq_s (.tmp rfl) (.tmp rfl)) ?_
  refine JL.q rfl rfl rfl (QW.assign (.tmp rfl)) ?_
  refine JL.nil ?_
  refine thenQ.n ?_
  refine J.ret ?_
  exact ⟨_, selP [] _, _, RetEv.one rfl (REv.tmp rfl (.refl _)), rfl, sel_perm [] _, ⟨ret_b (by simp), rfl⟩⟩
theorem lessStr_ok (a b : Str) : Fn Try.prog 132 [.c (str a), .c (str b)] (.c (.bool (Op.bytesLess a b))) := by
  refine AC.of_J Try.func132 rfl Try.ntmps132 rfl fun w0 A0 => ?_
  refine J.seq ?_
  refine J.region_lit ?_
  refine JL.q rfl rfl rfl (QW.assign .const) ?_
  refine JL.nil ?_
  refine thenQ.n ?_
  refine J.seq ?_
  refine J.region_lit ?_
  refine JL.q rfl rfl rfl (QW.move (.tmp rfl)) ?_
  refine JL.q rfl rfl rfl (QW.call gofn140 (.cons (.tmp rfl) .nil) (cnanStr_ok _)) ?_
  refine JL.q rfl rfl rfl (QW.move (.tmp rfl)) ?_
  refine JL.g rfl rfl rfl rfl rfl (fun hg => (QW.move (.tmp rfl))) ?_
  refine JL.g rfl rfl rfl rfl rfl (fun hg => (QW.call gofn140 (.cons (.when rfl hg) .nil) (cnanStr_ok _))) ?_
  refine JL.g rfl rfl rfl rfl rfl (fun hg => (QW.not (.when rfl hg))) ?_
  refine JL.q rfl rfl rfl (QW.pick_and (.tmp rfl) (.tmp rfl)) ?_
  refine JL.q rfl rfl rfl (QW.move (.tmp rfl)) ?_
  refine JL.g rfl rfl rfl rfl rfl (fun hg => (QW.move (.tmp rfl))) ?_
  refine JL.g rfl rfl rfl rfl rfl (fun hg => (QW.move (.tmp rfl))) ?_
  refine JL.g rfl rfl rfl rfl rfl (fun hg => (QW.lss_s (.when rfl hg) (.when rfl hg))) ?_
  refine JL.q rfl rfl rfl (QW.pick_or (.tmp rfl) (.tmp rfl)) ?_
  refine JL.q rfl rfl rfl (QW.assign (.tmp rfl)) ?_
  refine JL.nil ?_
  refine thenQ.n ?_
  refine J.ret ?_
  exact ⟨_, selP [] _, _, RetEv.one rfl (REv.tmp rfl (.refl _)), rfl, sel_perm [] _, ⟨ret_b (by simp), rfl⟩⟩
theorem foundStr {l : List Str} {k : Nat} {s : Str} : (decide (l[k]? = some s)) = (decide ((k : Int) < (l.length : Int)) && ((l.getD k []) == s || false && false)) := by
  by_cases hk : k < l.length
  · rw [Bool.eq_iff_iff]; simp [hk, List.getD]
  · rw [Bool.eq_iff_iff]; simp [hk]
theorem bs_ok {fr c : Bool} {l : List Str} {s : Str} {k : Nat} (hl : l.length ≤ 1000) (hk : k ≤ l.length) (h1 : ∀ i (h : i < l.length), i < k → Op.bytesLess l[i] s = true) (h2 : ∀ i (h : i < l.length), k ≤ i → Op.bytesLess l[i] s = false) : Fn Try.prog 107 [.sl fr c eStr (keysAV l), .c (str s)] (.tup [.c (.int .i64 (k : Int)), .c (.bool (decide (l[k]? = some s)))]) := by
  refine AC.of_J Try.func107 rfl Try.ntmps107 rfl fun w0 A0 => ?_
  refine J.seq ?_
  refine J.region_lit ?_
  refine JL.q rfl rfl rfl (QW.assign .const) ?_
  refine JL.q rfl rfl rfl (QW.assign .const) ?_
  refine JL.nil ?_
  refine thenQ.n ?_
  refine J.seq ?_
  refine J.region_lit ?_
  refine JL.q rfl rfl rfl (QW.move (.tmp rfl)) ?_
  refine JL.q rfl rfl rfl (by first | exact QW.len_slE sl23 (.tmp rfl) (keysAV_length _) | exact QW.len_slE sl23 (.tmp rfl) (V.css_length _ _) | exact QW.len_slE sl23 (.tmp rfl) (StT.css_length _) | exact QW.len_sl sl23 (.tmp rfl) | exact QW.len_nil sl23 (.tmp rfl)) ?_
  refine JL.q rfl rfl rfl (QW.assign (.tmp rfl)) ?_
  refine JL.nil ?_
  refine thenQ.n ?_
  refine J.seq ?_
  refine J.region_lit ?_
  refine JL.q rfl rfl rfl (QW.move (.tmp rfl)) ?_
  refine JL.q rfl rfl rfl (QW.assign .const) ?_
  refine JL.q rfl rfl rfl (QW.assign (.tmp rfl)) ?_
  refine JL.nil ?_
  refine thenQ.n ?_
  refine J.seq ?_
  refine J.block ?_
  refine J.loopK (ι := Nat × Nat) [0, 1, 4, 5, 6] (fun ⟨lo, hi⟩ => [(7, .c (.int .i64 (lo : Int))), (8, .c (.int .i64 (hi : Int)))]) (fun _ oo => oo) (fun ⟨lo, hi⟩ => lo ≤ k ∧ k ≤ hi ∧ hi ≤ l.length) (fun ⟨lo, hi⟩ => hi - lo) ⟨0, l.length⟩ (⟨Nat.zero_le _, hk, Nat.le_refl _⟩) (Wk.re (.cons rfl (.refl _) (.cons rfl (.refl _) (.cons rfl (.refl _) (.cons rfl (.refl _) (.cons rfl (.refl _) (.cons rfl (.refl _) (.cons rfl (.refl _) .nil))))))) (Reown.refl _) (fun _ h => by first | exact h | simp [h])) ?_
  intro ⟨lo, hi⟩ ⟨ha, hb, hc⟩
  refine J.conv (by (try simp only [id_eq, stepsO, List.map_cons, List.map_nil, valO, nthO, curO, mrg, List.reverse_cons, List.reverse_nil, List.nil_append, List.cons_append, List.append_nil, List.getElem?_cons_zero, List.getElem?_cons_succ, Option.map_some, Option.getD_some, List.set_cons_zero, List.set_cons_succ, AV.cellsOf, splice_zero, splice_succ, Nat.zero_add, Nat.reduceAdd]); rfl) ?_
  refine J.seq ?_
  refine J.seq ?_
  refine J.region_lit ?_
  refine JL.q rfl rfl rfl (QW.move (.tmp rfl)) ?_
  refine JL.q rfl rfl rfl (QW.move (.tmp rfl)) ?_
  refine JL.q rfl rfl rfl (QW.lss (.tmp rfl) (.tmp rfl)) ?_
  refine JL.nil ?_
  refine thenQ.n ?_
  refine J.cond (.tmp rfl) (fun c1 => ?_) (fun c1 => ?_)
  · skip
    have hlt : lo < hi := by simpa using c1
    refine J.skip ?_
    refine thenQ.n ?_
    refine J.block ?_
    refine J.seq ?_
    refine J.region_lit ?_
    refine JL.q rfl rfl rfl (QW.move (.tmp rfl)) ?_
    refine JL.q rfl rfl rfl (QW.move (.tmp rfl)) ?_
    refine JL.q rfl rfl rfl (QW.add (.tmp rfl) (.tmp rfl) (by first | exact w64n (by first | rfl | omega | (simp; done)) (by omega) | exact w64 (by omega) | rfl)) ?_
    refine JL.q rfl rfl rfl (QW.conv_int us3 iu170 (.tmp rfl) (by first | exact wu64 (by omega) | rfl)) ?_
    refine JL.q rfl rfl rfl (QW.shr (.tmp rfl) .const (by decide) fdiv2) ?_
    refine JL.q rfl rfl rfl (QW.conv_int us170 iu3 (.tmp rfl) (by first | exact w64n (by first | rfl | omega | (simp; done)) (by omega) | exact w64 (by omega) | rfl)) ?_
    refine JL.q rfl rfl rfl (QW.assign (.tmp rfl)) ?_
    refine JL.nil ?_
    refine thenQ.n ?_
    refine J.seq ?_
    refine J.region_lit ?_
    refine JL.q rfl rfl rfl (QW.move (.tmp rfl)) ?_
    refine JL.q rfl rfl rfl (QW.move (.tmp rfl)) ?_
    refine JL.q rfl rfl rfl (QW.index_sl sl23 ty9 rfl (.tmp rfl) (.tmp rfl) (by first | rfl | omega | (simp; done)) (by exact keysAV_getE (ks := l) (i := (lo + hi) / 2) (by omega))) ?_
    refine JL.q rfl rfl rfl (QW.load_ref1 ty9 (.tmp rfl) rfl) ?_
    refine JL.q rfl rfl rfl (QW.move (.tmp rfl)) ?_
    refine JL.q rfl rfl rfl (QW.call gofn132 (.cons (.tmp rfl) (.cons (.tmp rfl) .nil)) (lessStr_ok _ _)) ?_
    refine JL.nil ?_
    refine thenQ.n ?_
    refine J.cond (.tmp rfl) (fun c2 => ?_) (fun c2 => ?_)
    · skip
      have hm : Op.bytesLess (l[(lo + hi) / 2]'(by omega)) s = true := c2
      refine J.region_lit ?_
      refine JL.q rfl rfl rfl (QW.move (.tmp rfl)) ?_
      refine JL.q rfl rfl rfl (QW.add (.tmp rfl) .const (by first | exact w64n (by first | rfl | omega | (simp; done)) (by omega) | exact w64 (by omega) | rfl)) ?_
      refine JL.q rfl rfl rfl (QW.assign (.tmp rfl)) ?_
      refine JL.nil ?_
      refine blkQ.n ?_
      refine thenQ.n ?_
      exact ⟨⟨(lo + hi) / 2 + 1, hi⟩, ⟨Nat.lt_of_not_le fun h => absurd (h2 _ (by omega) h) (by rw [hm]; decide), hb, hc⟩, by show hi - ((lo + hi) / 2 + 1) < hi - lo; omega, Wk.re (.cons rfl (.refl _) (.cons rfl (.refl _) (.cons rfl (.refl _) (.cons rfl (.refl _) (.cons rfl (.refl _) (.cons rfl (.refl _) (.cons rfl (.refl _) .nil))))))) (Reown.refl _) (fun _ h => by first | exact h | simp [h])⟩
    · skip
      have hm : Op.bytesLess (l[(lo + hi) / 2]'(by omega)) s = false := c2
      refine J.region_lit ?_
      refine JL.q rfl rfl rfl (QW.move (.tmp rfl)) ?_
      refine JL.q rfl rfl rfl (QW.assign (.tmp rfl)) ?_
      refine JL.nil ?_
      refine blkQ.n ?_
      refine thenQ.n ?_
      exact ⟨⟨lo, (lo + hi) / 2⟩, ⟨ha, Nat.le_of_not_lt fun h => absurd (h1 _ (by omega) h) (by rw [hm]; decide), by omega⟩, by show (lo + hi) / 2 - lo < hi - lo; omega, Wk.re (.cons rfl (.refl _) (.cons rfl (.refl _) (.cons rfl (.refl _) (.cons rfl (.refl _) (.cons rfl (.refl _) (.cons rfl (.refl _) (.cons rfl (.refl _) .nil))))))) (Reown.refl _) (fun _ h => by first | exact h | simp [h])⟩
  · skip
    have hge : hi ≤ lo := by simpa using c1
    refine J.exit ?_
    refine thenQ.x ?_
    refine thenQ.x ?_
    refine blkQ.hit ?_
    refine thenQ.n ?_
    refine J.seq ?_
    refine J.region_lit ?_
    refine JL.q rfl rfl rfl (QW.move (.tmp rfl)) ?_
    refine JL.q rfl rfl rfl (QW.move (.tmp rfl)) ?_
    refine JL.q rfl rfl rfl (QW.move (.tmp rfl)) ?_
    refine JL.q rfl rfl rfl (QW.lss (.tmp rfl) (.tmp rfl)) ?_
    refine JL.q rfl rfl rfl (QW.move (.tmp rfl)) ?_
    refine JL.g rfl rfl rfl rfl rfl (fun hg => (QW.move (.tmp rfl))) ?_
    refine JL.g rfl rfl rfl rfl rfl (fun hg => (QW.move (.tmp rfl))) ?_
    refine JL.g rfl rfl rfl rfl rfl (fun hg => (QW.index_sl sl23 ty9 rfl (.when rfl hg) (.when rfl hg) (by first | rfl | omega | (simp; done)) (by exact keysAV_getD (by simp at hg; omega)))) ?_
    refine JL.g rfl rfl rfl rfl rfl (fun hg => (QW.load_ref1 ty9 (.when rfl hg) rfl)) ?_
    refine JL.g rfl rfl rfl rfl rfl (fun hg => (QW.move (.tmp rfl))) ?_
    refine JL.g rfl rfl rfl rfl rfl (fun hg => (QW.eql_s (.when rfl hg) (.when rfl hg))) ?_
    refine JL.g rfl rfl rfl rfl rfl (fun hg => (QW.move (.when rfl hg))) ?_
    refine JL.gg rfl rfl rfl rfl rfl (fun hg => (QW.move (.tmp rfl))) ?_
    refine JL.gg rfl rfl rfl rfl rfl (fun hg => (QW.move (.tmp rfl))) ?_
    refine JL.gg rfl rfl rfl rfl rfl (fun hg => (QW.index_sl sl23 ty9 rfl (.when rfl hg) (.when rfl hg) (by first | rfl | omega | (simp; done)) (by exact keysAV_getD (by simp at hg; omega)))) ?_
    refine JL.gg rfl rfl rfl rfl rfl (fun hg => (QW.load_ref1 ty9 (.when rfl hg) rfl)) ?_
    refine JL.gg rfl rfl rfl rfl rfl (fun hg => (QW.call gofn133 (.cons (.when rfl hg) .nil) (nanStr_ok _))) ?_
    refine JL.gg rfl rfl rfl rfl rfl (fun hg => (QW.move (.when rfl hg))) ?_
    refine JL.gg rfl rfl rfl rfl rfl (fun hg => (QW.move (.tmp rfl))) ?_
    refine JL.gg rfl rfl rfl rfl rfl (fun hg => (QW.call gofn133 (.cons (.when rfl hg) .nil) (nanStr_ok _))) ?_
    refine JL.gg rfl rfl rfl rfl rfl (fun hg => (by first | exact QW.pick_and (.when rfl hg) (.tmp rfl) | exact QW.pick_and2 hg (.when rfl hg) (.tmp rfl))) ?_
    refine JL.g rfl rfl rfl rfl rfl (fun hg => (by first | exact QW.pick_or (.when rfl hg) (.tmp rfl) | exact QW.pick_or2 hg (.when rfl hg) (.tmp rfl))) ?_
    refine JL.q rfl rfl rfl (QW.pick_and (.tmp rfl) (.tmp rfl)) ?_
    refine JL.q rfl rfl rfl (QW.assign (.tmp rfl)) ?_
    refine JL.q rfl rfl rfl (QW.assign (.tmp rfl)) ?_
    refine JL.nil ?_
    refine thenQ.n ?_
    refine J.ret ?_
    obtain rfl : lo = k := by omega
    exact ⟨_, selP [] _, _, RetEv.two rfl (REv.tmp rfl (.refl _)) (REv.tmp rfl (.refl _)), rfl, sel_perm [] _, ⟨by rw [foundStr], rfl⟩⟩
def fndAV (v : V) (s : StT) : AV := .tup [.c (.int .i64 ((v.fnd s).1 : Int)), .c (.int .i64 (v.fnd s).2)]
theorem fndAV_of {v : V} {s : StT} {i : Nat} {e : Int} (h : v.fnd s = (i, e)) : fndAV v s = .tup [.c (.int .i64 (i : Int)), .c (.int .i64 e)] := by rw [fndAV, h]
theorem find_ok {fr : Bool} {v : V} {s : StT} {ys zs : List AV} (hv : Vc fr v ys) (hs : Sc s zs) (hp : partOk v = true) (hsw : s.wf) : Fn Try.prog 76 [.agg ys, .agg zs] (fndAV v s) := by
  obtain ⟨k, b, t, ks, is⟩ := v
  subst hv
  obtain ⟨sk, key, ix⟩ := s
  subst hs
  obtain ⟨l1, l2⟩ := partOk_len hp
  have hsi := hsw.i
  simp only [V.items, V.keys] at l1 l2 hsi
  refine AC.of_J Try.func76 rfl Try.ntmps76 rfl fun w0 A0 => ?_
  refine J.seq ?_
  refine J.region_lit ?_
  refine JL.box_agg (.tmp rfl) rfl fun b2 => ?_
  refine JL.box_agg (.tmp rfl) rfl fun b3 => ?_
  refine JL.q rfl rfl rfl (QW.assign .const) ?_
  refine JL.q rfl rfl rfl (QW.assign .const) ?_
  refine JL.nil ?_
  refine thenQ.n ?_
  refine J.seq ?_
  refine J.block ?_
  refine J.seq ?_
  refine J.seq ?_
  refine J.region_lit ?_
  refine JL.q rfl rfl rfl (QW.field_ptr fo48_0 (.tmp rfl) rfl) ?_
  refine JL.q rfl rfl rfl (QW.load_box1 0 ty4 (.tmp rfl) rfl rfl) ?_
  refine JL.q rfl rfl rfl (QW.move (.tmp rfl)) ?_
  refine JL.g rfl rfl rfl rfl rfl (fun hg => (QW.field_ptr fo26_0 (.tmp rfl) rfl)) ?_
  refine JL.g rfl rfl rfl rfl rfl (fun hg => (QW.load_box1 1 ty3 (.when rfl hg) rfl rfl)) ?_
  refine JL.g rfl rfl rfl rfl rfl (fun hg => (QW.neq (.when rfl hg) .const)) ?_
  refine JL.q rfl rfl rfl (QW.pick_and (.tmp rfl) (.tmp rfl)) ?_
  refine JL.q rfl rfl rfl (QW.assign (.tmp rfl)) ?_
  refine JL.nil ?_
  refine thenQ.n ?_
  refine J.cond (.tmp rfl) (fun c1 => ?_) (fun c1 => ?_)
  · skip
    skip
    refine J.skip ?_
    refine thenQ.n ?_
    refine J.cond (.tmp rfl) (fun c2 => ?_) (fun c2 => absurd c2 (by rw [c1]; decide))
    refine J.seq ?_
    refine J.region_lit ?_
    refine JL.q rfl rfl rfl (QW.assign .const) ?_
    refine JL.q rfl rfl rfl (QW.assign .const) ?_
    refine JL.nil ?_
    refine thenQ.n ?_
    refine J.ret ?_
    refine blkQ.r ?_
    refine thenQ.r ?_
    exact ⟨_, selP [.k, .k] _, _, RetEv.two rfl (REv.tmp rfl (.refl _)) (REv.tmp rfl (.refl _)), rfl, sel_perm [.k, .k] _, ⟨congrArg Res.ret (fndAV_of (i := 0) (e := 81) (by simp at c1; obtain ⟨rfl, h5⟩ := c1; simp [V.fnd, V.kind, h5])).symm, rfl⟩⟩
  · skip
    skip
    refine J.region_lit ?_
    refine JL.q rfl rfl rfl (QW.field_ptr fo48_0 (.tmp rfl) rfl) ?_
    refine JL.q rfl rfl rfl (QW.load_box1 0 ty4 (.tmp rfl) rfl rfl) ?_
    refine JL.q rfl rfl rfl (QW.not (.tmp rfl)) ?_
    refine JL.q rfl rfl rfl (QW.move (.tmp rfl)) ?_
    refine JL.g rfl rfl rfl rfl rfl (fun hg => (QW.field_ptr fo26_0 (.tmp rfl) rfl)) ?_
    refine JL.g rfl rfl rfl rfl rfl (fun hg => (QW.load_box1 1 ty3 (.when rfl hg) rfl rfl)) ?_
    refine JL.g rfl rfl rfl rfl rfl (fun hg => (QW.neq (.when rfl hg) .const)) ?_
    refine JL.q rfl rfl rfl (QW.pick_and (.tmp rfl) (.tmp rfl)) ?_
    refine JL.q rfl rfl rfl (QW.assign (.tmp rfl)) ?_
    refine JL.nil ?_
    refine thenQ.n ?_
    refine J.cond (.tmp rfl) (fun c2 => ?_) (fun c2 => ?_)
    · skip
      skip
      refine J.seq ?_
      refine J.region_lit ?_
      refine JL.q rfl rfl rfl (QW.assign .const) ?_
      refine JL.q rfl rfl rfl (QW.assign .const) ?_
      refine JL.nil ?_
      refine thenQ.n ?_
      refine J.ret ?_
      refine blkQ.r ?_
      refine thenQ.r ?_
      exact ⟨_, selP [.k, .k] _, _, RetEv.two rfl (REv.tmp rfl (.refl _)) (REv.tmp rfl (.refl _)), rfl, sel_perm [.k, .k] _, ⟨congrArg Res.ret (fndAV_of (i := 0) (e := 81) (by simp at c1 c2; obtain ⟨rfl, h5⟩ := c2; simp [V.fnd, V.kind, h5])).symm, rfl⟩⟩
    · skip
      skip
      refine J.seq ?_
      refine J.region_lit ?_
      refine JL.q rfl rfl rfl (QW.field_ptr fo48_0 (.tmp rfl) rfl) ?_
      refine JL.q rfl rfl rfl (QW.load_box1 0 ty4 (.tmp rfl) rfl rfl) ?_
      refine JL.q rfl rfl rfl (QW.assign (.tmp rfl)) ?_
      refine JL.nil ?_
      refine thenQ.n ?_
      refine J.cond (.tmp rfl) (fun c3 => ?_) (fun c3 => ?_)
      · skip
        simp at c1 c2
        subst c3
        simp at c1
        subst c1
        have hsrt : Sorted ks := keysOk_sorted (partOk_rec hp rfl).2
        refine J.seq ?_
        refine J.region_lit ?_
        refine JL.q rfl rfl rfl (QW.field_ptr fo26_3 (.tmp rfl) rfl) ?_
        refine JL.q rfl rfl rfl (QW.load_box1 1 ty23 (.tmp rfl) rfl rfl) ?_
        refine JL.q rfl rfl rfl (QW.field_ptr fo48_1 (.tmp rfl) rfl) ?_
        refine JL.q rfl rfl rfl (QW.load_box1 0 ty9 (.tmp rfl) rfl rfl) ?_
        refine JL.q rfl rfl rfl (QW.call gofn107 (.cons (.tmp rfl) (.cons (.tmp rfl) .nil)) (bs_ok (k := low ks key) (by omega) (low_le _ _) (fun i h hi => low_lt h hi) (fun i h hi => low_ge hsrt h hi))) ?_
        refine JL.q rfl rfl rfl (QW.move (.tmp rfl)) ?_
        refine JL.q rfl rfl rfl (QW.extract (.tmp rfl) rfl) ?_
        refine JL.q rfl rfl rfl (QW.extract (.tmp rfl) rfl) ?_
        refine JL.q rfl rfl rfl (QW.assign (.tmp rfl)) ?_
        refine JL.q rfl rfl rfl (QW.assign (.tmp rfl)) ?_
        refine JL.nil ?_
        refine thenQ.n ?_
        refine J.seq ?_
        refine J.seq ?_
        refine J.region_lit ?_
        refine JL.q rfl rfl rfl (QW.move (.tmp rfl)) ?_
        refine JL.q rfl rfl rfl (QW.not (.tmp rfl)) ?_
        refine JL.nil ?_
        refine thenQ.n ?_
        refine J.cond (.tmp rfl) (fun c4 => ?_) (fun c4 => ?_)
        · skip
          skip
          refine J.seq ?_
          refine J.region_lit ?_
          refine JL.q rfl rfl rfl (QW.move (.tmp rfl)) ?_
          refine JL.q rfl rfl rfl (QW.assign (.tmp rfl)) ?_
          refine JL.q rfl rfl rfl (QW.assign .const) ?_
          refine JL.nil ?_
          refine thenQ.n ?_
          refine J.ret ?_
          refine thenQ.r ?_
          refine blkQ.r ?_
          refine thenQ.r ?_
          exact ⟨_, selP [.k, .k] _, _, RetEv.two rfl (REv.tmp rfl (.refl _)) (REv.tmp rfl (.refl _)), rfl, sel_perm [.k, .k] _, ⟨congrArg Res.ret (fndAV_of (i := low ks key) (e := 71) (by simp at c4; simp [V.fnd, V.kind, V.keys, c4])).symm, rfl⟩⟩
        · skip
          skip
          refine J.skip ?_
          refine thenQ.n ?_
          refine J.seq ?_
          refine J.region_lit ?_
          refine JL.q rfl rfl rfl (QW.move (.tmp rfl)) ?_
          refine JL.q rfl rfl rfl (QW.assign (.tmp rfl)) ?_
          refine JL.q rfl rfl rfl (QW.assign .const) ?_
          refine JL.nil ?_
          refine thenQ.n ?_
          refine J.ret ?_
          refine blkQ.r ?_
          refine thenQ.r ?_
          exact ⟨_, selP [.k, .k] _, _, RetEv.two rfl (REv.tmp rfl (.refl _)) (REv.tmp rfl (.refl _)), rfl, sel_perm [.k, .k] _, ⟨congrArg Res.ret (fndAV_of (i := low ks key) (e := 0) (by simp at c4; simp [V.fnd, V.kind, V.keys, c4])).symm, rfl⟩⟩
      · skip
        simp at c1 c2
        subst c3
        simp at c2
        subst c2
        refine J.seq ?_
        refine J.region_lit ?_
        refine JL.q rfl rfl rfl (QW.field_ptr fo48_2 (.tmp rfl) rfl) ?_
        refine JL.q rfl rfl rfl (QW.load_box1 0 ty3 (.tmp rfl) rfl rfl) ?_
        refine JL.q rfl rfl rfl (QW.lss (.tmp rfl) .const) ?_
        refine JL.q rfl rfl rfl (QW.move (.tmp rfl)) ?_
        refine JL.g rfl rfl rfl rfl rfl (fun hg => (QW.field_ptr fo48_2 (.tmp rfl) rfl)) ?_
        refine JL.g rfl rfl rfl rfl rfl (fun hg => (QW.load_box1 0 ty3 (.when rfl hg) rfl rfl)) ?_
        refine JL.g rfl rfl rfl rfl rfl (fun hg => (QW.field_ptr fo26_4 (.tmp rfl) rfl)) ?_
        refine JL.g rfl rfl rfl rfl rfl (fun hg => (QW.load_box1 1 ty24 (.when rfl hg) rfl rfl)) ?_
        refine JL.g rfl rfl rfl rfl rfl (fun hg => (by first | exact QW.len_slE sl24 (.when rfl hg) (keysAV_length _) | exact QW.len_slE sl24 (.when rfl hg) (V.css_length _ _) | exact QW.len_slE sl24 (.when rfl hg) (StT.css_length _) | exact QW.len_sl sl24 (.when rfl hg) | exact QW.len_nil sl24 (.when rfl hg))) ?_
        refine JL.g rfl rfl rfl rfl rfl (fun hg => (QW.geq (.when rfl hg) (.when rfl hg))) ?_
        refine JL.q rfl rfl rfl (QW.pick_or (.tmp rfl) (.tmp rfl)) ?_
        refine JL.q rfl rfl rfl (QW.assign (.tmp rfl)) ?_
        refine JL.nil ?_
        refine thenQ.n ?_
        refine J.cond (.tmp rfl) (fun c4 => ?_) (fun c4 => ?_)
        · skip
          skip
          refine J.seq ?_
          refine J.region_lit ?_
          refine JL.q rfl rfl rfl (QW.assign .const) ?_
          refine JL.q rfl rfl rfl (QW.assign .const) ?_
          refine JL.nil ?_
          refine thenQ.n ?_
          refine J.ret ?_
          refine blkQ.r ?_
          refine thenQ.r ?_
          exact ⟨_, selP [.k, .k] _, _, RetEv.two rfl (REv.tmp rfl (.refl _)) (REv.tmp rfl (.refl _)), rfl, sel_perm [.k, .k] _, ⟨congrArg Res.ret (fndAV_of (i := 0) (e := 82) (by unfold V.fnd; rw [if_neg (by simp), if_pos (show (V.mk 4 b t ks is).kind = 4 from rfl), if_pos (by simpa [V.items] using c4)])).symm, rfl⟩⟩
        · skip
          skip
          refine J.skip ?_
          refine blkQ.n ?_
          refine thenQ.n ?_
          refine J.seq ?_
          refine J.region_lit ?_
          refine JL.q rfl rfl rfl (QW.field_ptr fo48_2 (.tmp rfl) rfl) ?_
          refine JL.q rfl rfl rfl (QW.load_box1 0 ty3 (.tmp rfl) rfl rfl) ?_
          refine JL.q rfl rfl rfl (QW.assign (.tmp rfl)) ?_
          refine JL.q rfl rfl rfl (QW.assign .const) ?_
          refine JL.nil ?_
          refine thenQ.n ?_
          refine J.ret ?_
          simp at c4
          obtain ⟨m, rfl⟩ := Int.eq_ofNat_of_zero_le (a := ix) (by omega)
          exact ⟨_, selP [.k, .k] _, _, RetEv.two rfl (REv.tmp rfl (.refl _)) (REv.tmp rfl (.refl _)), rfl, sel_perm [.k, .k] _, ⟨congrArg Res.ret (fndAV_of (i := m) (e := 0) (by simp [V.fnd, V.kind, V.items]; omega)).symm, rfl⟩⟩
def getAV (v : V) (p : List StT) : AV := .tup [.agg ((v.getv p).1.cs true), .c (.int .i64 (v.getv p).2)]
theorem getAV_of {v u : V} {p : List StT} {e : Int} (h : v.getv p = (u, e)) : getAV v p = .tup [.agg (u.cs true), .c (.int .i64 e)] := by rw [getAV, h]
theorem V.cs_it (fr : Bool) (u : V) : (u.cs fr)[0 + 4]? = some (.sl fr false eV (V.css fr u.items)) := by cases u; rfl
theorem drop_at {α : Type} {l : List α} {j : Nat} (h : j < l.length) : l.drop j = l[j] :: l.drop (j + 1) := List.drop_eq_getElem_cons h
theorem get_ok {fr fr2 c2 : Bool} {v : V} {p : List StT} {ys : List AV} (hv : Vc fr v ys) (hw : v.wf) (hp : p.length * 32 ≤ reach ∧ ∀ s ∈ p, s.wf) : Fn Try.prog 28 [.agg ys, .sl fr2 c2 eSt (StT.css p)] (getAV v p) := by
  obtain ⟨hp80, hpw⟩ := hp
  have hpl : p.length ≤ 4398046511104 := by unfold reach at hp80; omega
  subst hv
  refine AC.of_J Try.func28 rfl Try.ntmps28 rfl fun w0 A0 => ?_
  refine J.seq ?_
  refine J.region_lit ?_
  refine JL.box_agg (.tmp rfl) rfl fun b2 => ?_
  refine JL.alloc z26 rfl rfl fun b4 => ?_
  refine JL.q rfl rfl rfl (QW.assign .const) ?_
  refine JL.nil ?_
  refine thenQ.n ?_
  refine J.seq ?_
  refine J.seq ?_
  refine J.region_lit ?_
  refine JL.q rfl rfl rfl (by first | exact QW.load_box 1 ty26 (.tmp rfl) rfl rfl rfl | exact QW.load_box 1 ty26 (.tmp rfl) rfl (take_at (V.cs_length _ _) rfl) (V.cs_length _ _)) ?_
  refine JL.q rfl rfl rfl (QW.call gofn24 (.cons (.tmp rfl) .nil) (check_ok Vc.self hw)) ?_
  refine JL.q rfl rfl rfl (QW.assign (.tmp rfl)) ?_
  refine JL.nil ?_
  refine thenQ.n ?_
  refine J.seq ?_
  refine J.region_lit ?_
  refine JL.q rfl rfl rfl (QW.move (.tmp rfl)) ?_
  refine JL.q rfl rfl rfl (QW.neq (.tmp rfl) .const) ?_
  refine JL.nil ?_
  refine thenQ.n ?_
  refine J.cond (.tmp rfl) (fun c1 => ?_) (fun c1 => ?_)
  · skip
    simp at c1
    refine J.seq ?_
    refine J.region_lit ?_
    refine JL.q rfl rfl rfl (QW.build (idx := []) pl26 z26 rfl .nil rfl rfl rfl rfl) ?_
    refine JL.q rfl rfl rfl (QW.move (.tmp rfl)) ?_
    first | refine JL.store_boxF 0 ty26 (.tmp rfl) rfl (.tmp rfl) (by first | rfl | assumption) (rfl) (rfl) rfl ?_ | refine JL.store_boxF 0 ty26 (.tmp rfl) rfl (.tmp rfl) (by first | rfl | assumption) (rfl) (V.cs_length _ _) rfl ?_ | refine JL.store_boxF 0 ty26 (.tmp rfl) rfl (.tmp rfl) (by first | rfl | assumption) (V.cs_length _ _) (rfl) rfl ?_ | refine JL.store_boxF 0 ty26 (.tmp rfl) rfl (.tmp rfl) (by first | rfl | assumption) (V.cs_length _ _) (V.cs_length _ _) rfl ?_ | refine JL.store_box 0 ty26 (.tmp rfl) rfl (.tmp rfl) (by first | rfl | assumption) rfl rfl rfl rfl ?_ | refine JL.store_box 0 ty26 (.tmp rfl) rfl (.tmp rfl) (by first | rfl | assumption) (V.cs_length _ _) rfl rfl rfl ?_
    refine JL.q rfl rfl rfl (QW.assign (.tmp rfl)) ?_
    refine JL.nil ?_
    refine thenQ.n ?_
    refine J.ret ?_
    refine thenQ.r ?_
    exact ⟨_, selP [.k, .k] _, _, RetEv.two rfl (by first | exact REv.cell 0 ty26 rfl rfl rfl rfl (.aggL (.cons (.refl _) (.cons (.refl _) (.cons (.refl _) (.cons (.nil true false _) (.cons (.nil true false _) .nil)))))) | exact REv.cell 0 ty26 rfl rfl (take_at (V.cs_length _ _) rfl) (V.cs_length _ _) (.aggL (.cons (.refl _) (.cons (.refl _) (.cons (.refl _) (.cons (.nil true false _) (.cons (.nil true false _) .nil))))))) (REv.tmp rfl (.refl _)), rfl, sel_perm [.k, .k] _, ⟨congrArg Res.ret (getAV_of (u := .nil) (e := v.err) (by rw [V.getv, if_pos c1])).symm, rfl⟩⟩
  · skip
    simp at c1
    have hfv := V.fine_of c1
    refine J.skip ?_
    refine thenQ.n ?_
    refine J.seq ?_
    refine J.seq ?_
    refine J.region_lit ?_
    refine JL.q rfl rfl rfl (QW.move (.tmp rfl)) ?_
    refine JL.q rfl rfl rfl (by first | exact QW.len_slE sl39 (.tmp rfl) (keysAV_length _) | exact QW.len_slE sl39 (.tmp rfl) (V.css_length _ _) | exact QW.len_slE sl39 (.tmp rfl) (StT.css_length _) | exact QW.len_sl sl39 (.tmp rfl) | exact QW.len_nil sl39 (.tmp rfl)) ?_
    refine JL.q rfl rfl rfl (QW.move .const) ?_
    refine JL.nil ?_
    refine thenQ.n ?_
    refine J.block ?_
    refine J.loopK (ι := Nat × V) [2, 4, 17, 18] (fun ⟨j, u⟩ => [(19, .c (.int .i64 (j : Int)))]) (fun ⟨j, u⟩ oo => List.set oo 1 (.box b2 (u.cs fr))) (fun ⟨j, u⟩ => j ≤ p.length ∧ u.Fine ∧ u.wf ∧ v.walk p = u.walk (p.drop j)) (fun ⟨j, u⟩ => p.length - j) ⟨0, v⟩ (⟨Nat.zero_le _, hfv, hw, rfl⟩) (Wk.re (.cons rfl (.refl _) (.cons rfl (.refl _) (.cons rfl (.refl _) (.cons rfl (.refl _) (.cons rfl (.refl _) .nil))))) (Reown.refl _) (fun _ h => by first | exact h | simp [h])) ?_
    intro ⟨j, u⟩ ⟨hj, hf, huw, hwk⟩
    refine J.conv (by (try simp only [id_eq, stepsO, List.map_cons, List.map_nil, valO, nthO, curO, mrg, List.reverse_cons, List.reverse_nil, List.nil_append, List.cons_append, List.append_nil, List.getElem?_cons_zero, List.getElem?_cons_succ, Option.map_some, Option.getD_some, List.set_cons_zero, List.set_cons_succ, AV.cellsOf, splice_zero, splice_succ, Nat.zero_add, Nat.reduceAdd]); rfl) ?_
    refine J.seq ?_
    refine J.region_lit ?_
    refine JL.q rfl rfl rfl (QW.lss (.tmp rfl) (.tmp rfl)) ?_
    refine JL.nil ?_
    refine thenQ.n ?_
    refine J.seq ?_
    refine J.cond (.tmp rfl) (fun c2 => ?_) (fun c2 => ?_)
    · skip
      have hlt : j < p.length := by simpa using c2
      refine J.skip ?_
      refine thenQ.n ?_
      refine J.seq ?_
      refine J.block ?_
      refine J.seq ?_
      refine J.region_lit ?_
      refine JL.q rfl rfl rfl (QW.index_sl sl39 ty48 rfl (.tmp rfl) (.tmp rfl) (by first | rfl | omega | (simp; done)) (by exact StT.css_getE hlt)) ?_
      refine JL.q rfl rfl rfl (by first | exact QW.load_ref ty48 (.tmp rfl) rfl rfl | exact QW.load_ref ty48 (.tmp rfl) (take_at0 (rfl) rfl) (rfl)) ?_
      refine JL.alloc z48 rfl rfl fun b8 => ?_
      first | refine JL.store_boxF 0 ty48 (.tmp rfl) rfl (.tmp rfl) (by first | rfl | assumption) (rfl) (rfl) rfl ?_ | refine JL.store_boxF 0 ty48 (.tmp rfl) rfl (.tmp rfl) (by first | rfl | assumption) (rfl) (rfl) rfl ?_ | refine JL.store_boxF 0 ty48 (.tmp rfl) rfl (.tmp rfl) (by first | rfl | assumption) (rfl) (rfl) rfl ?_ | refine JL.store_boxF 0 ty48 (.tmp rfl) rfl (.tmp rfl) (by first | rfl | assumption) (rfl) (rfl) rfl ?_ | refine JL.store_box 0 ty48 (.tmp rfl) rfl (.tmp rfl) (by first | rfl | assumption) rfl rfl rfl rfl ?_ | refine JL.store_box 0 ty48 (.tmp rfl) rfl (.tmp rfl) (by first | rfl | assumption) (rfl) rfl rfl rfl ?_
      refine JL.nil ?_
      refine thenQ.n ?_
      refine J.seq ?_
      refine J.region_lit ?_
      refine JL.q rfl rfl rfl (by first | exact QW.load_box 2 ty26 (.tmp rfl) rfl rfl rfl | exact QW.load_box 2 ty26 (.tmp rfl) rfl (take_at (V.cs_length _ _) rfl) (V.cs_length _ _)) ?_
      refine JL.q rfl rfl rfl (by first | exact QW.load_box 0 ty48 (.tmp rfl) rfl rfl rfl | exact QW.load_box 0 ty48 (.tmp rfl) rfl (take_at (rfl) rfl) (rfl)) ?_
      refine JL.q rfl rfl rfl (QW.call gofn76 (.cons (.tmp rfl) (.cons (.tmp rfl) .nil)) (find_ok Vc.self Sc.self hf.part (hpw _ (List.getElem_mem hlt)))) ?_
      refine JL.q rfl rfl rfl (QW.move (.tmp rfl)) ?_
      refine JL.q rfl rfl rfl (QW.extract (.tmp rfl) rfl) ?_
      refine JL.q rfl rfl rfl (QW.extract (.tmp rfl) rfl) ?_
      refine JL.q rfl rfl rfl (QW.assign (.tmp rfl)) ?_
      refine JL.q rfl rfl rfl (QW.assign (.tmp rfl)) ?_
      refine JL.nil ?_
      refine thenQ.n ?_
      refine J.seq ?_
      refine J.seq ?_
      refine J.region_lit ?_
      refine JL.q rfl rfl rfl (QW.move (.tmp rfl)) ?_
      refine JL.q rfl rfl rfl (QW.neq (.tmp rfl) .const) ?_
      refine JL.nil ?_
      refine thenQ.n ?_
      refine J.cond (.tmp rfl) (fun c3 => ?_) (fun c3 => ?_)
      · skip
        simp at c3
        refine J.seq ?_
        refine J.region_lit ?_
        refine JL.q rfl rfl rfl (QW.build (idx := []) pl26 z26 rfl .nil rfl rfl rfl rfl) ?_
        refine JL.q rfl rfl rfl (QW.move (.tmp rfl)) ?_
        first | refine JL.store_boxF 1 ty26 (.tmp rfl) rfl (.tmp rfl) (by first | rfl | assumption) (rfl) (rfl) rfl ?_ | refine JL.store_boxF 1 ty26 (.tmp rfl) rfl (.tmp rfl) (by first | rfl | assumption) (rfl) (V.cs_length _ _) rfl ?_ | refine JL.store_boxF 1 ty26 (.tmp rfl) rfl (.tmp rfl) (by first | rfl | assumption) (V.cs_length _ _) (rfl) rfl ?_ | refine JL.store_boxF 1 ty26 (.tmp rfl) rfl (.tmp rfl) (by first | rfl | assumption) (V.cs_length _ _) (V.cs_length _ _) rfl ?_ | refine JL.store_box 1 ty26 (.tmp rfl) rfl (.tmp rfl) (by first | rfl | assumption) rfl rfl rfl rfl ?_ | refine JL.store_box 1 ty26 (.tmp rfl) rfl (.tmp rfl) (by first | rfl | assumption) (V.cs_length _ _) rfl rfl rfl ?_
        refine JL.q rfl rfl rfl (QW.assign (.tmp rfl)) ?_
        refine JL.nil ?_
        refine thenQ.n ?_
        refine J.ret ?_
        refine thenQ.r ?_
        refine blkQ.r ?_
        refine thenQ.r ?_
        refine thenQ.r ?_
        refine blkQ.r ?_
        refine thenQ.r ?_
        exact ⟨_, selP [.k, .k, .k] _, _, RetEv.two rfl (by first | exact REv.cell 1 ty26 rfl rfl rfl rfl (.aggL (.cons (.refl _) (.cons (.refl _) (.cons (.refl _) (.cons (.nil true false _) (.cons (.nil true false _) .nil)))))) | exact REv.cell 1 ty26 rfl rfl (take_at (V.cs_length _ _) rfl) (V.cs_length _ _) (.aggL (.cons (.refl _) (.cons (.refl _) (.cons (.refl _) (.cons (.nil true false _) (.cons (.nil true false _) .nil))))))) (REv.tmp rfl (.refl _)), rfl, sel_perm [.k, .k, .k] _, ⟨congrArg Res.ret (getAV_of (u := .nil) (e := (u.fnd (p[j]'hlt)).2) (by rw [V.getv, if_neg (by simp [c1]), hwk, drop_at hlt, V.walk, if_pos c3])).symm, rfl⟩⟩
      · skip
        simp at c3
        have hil := V.fnd_lt hf.part c3
        have hcn : (if (u.fnd (p[j]'hlt)).2 = 0 then ((u.fnd (p[j]'hlt)).1 : Int) else -1) = ((u.fnd (p[j]'hlt)).1 : Int) := if_pos c3
        refine J.skip ?_
        refine thenQ.n ?_
        refine J.region_lit ?_
        refine JL.q rfl rfl rfl (QW.field_ptr fo26_4 (.tmp rfl) rfl) ?_
        refine JL.q rfl rfl rfl (QW.load_box1 2 ty24 (.tmp rfl) rfl (V.cs_it fr u)) ?_
        refine JL.q rfl rfl rfl (QW.move (.tmp rfl)) ?_
        refine JL.q rfl rfl rfl (QW.index_sl sl24 ty26 rfl (.tmp rfl) (.tmp rfl) (by first | rfl | omega | (simp; done)) (by exact (V.css_getE fr hil).trans (by rw [← V.kid_eq hil]))) ?_
        refine JL.q rfl rfl rfl (by first | exact QW.load_ref ty26 (.tmp rfl) rfl rfl | exact QW.load_ref ty26 (.tmp rfl) (take_at0 (V.cs_length _ _) rfl) (V.cs_length _ _)) ?_
        first | refine JL.store_boxF 2 ty26 (.tmp rfl) rfl (.tmp rfl) (by first | rfl | assumption) (rfl) (rfl) rfl ?_ | refine JL.store_boxF 2 ty26 (.tmp rfl) rfl (.tmp rfl) (by first | rfl | assumption) (rfl) (V.cs_length _ _) rfl ?_ | refine JL.store_boxF 2 ty26 (.tmp rfl) rfl (.tmp rfl) (by first | rfl | assumption) (V.cs_length _ _) (rfl) rfl ?_ | refine JL.store_boxF 2 ty26 (.tmp rfl) rfl (.tmp rfl) (by first | rfl | assumption) (V.cs_length _ _) (V.cs_length _ _) rfl ?_ | refine JL.store_box 2 ty26 (.tmp rfl) rfl (.tmp rfl) (by first | rfl | assumption) rfl rfl rfl rfl ?_ | refine JL.store_box 2 ty26 (.tmp rfl) rfl (.tmp rfl) (by first | rfl | assumption) (V.cs_length _ _) rfl rfl rfl ?_
        refine JL.nil ?_
        refine blkQ.n ?_
        refine thenQ.n ?_
        refine J.region_lit ?_
        refine JL.q rfl rfl rfl (QW.add (.tmp rfl) .const (by first | exact w64n (by first | rfl | omega | (simp; done)) (by omega) | exact w64 (by omega) | rfl)) ?_
        refine JL.q rfl rfl rfl (QW.move (.tmp rfl)) ?_
        refine JL.nil ?_
        refine thenQ.n ?_
        exact ⟨⟨j + 1, u.kid (u.fnd (p[j]'hlt)).1⟩, ⟨hlt, hf.kid (V.kid_mem hil), huw.kid (V.kid_mem hil), by rw [hwk, drop_at hlt, V.walk, if_neg (by simpa using c3)]⟩, by show p.length - (j + 1) < p.length - j; omega, Wk.re (.cons rfl (.refl _) (.cons rfl (.refl _) (.cons rfl (.refl _) (.cons rfl (.refl _) (.cons rfl (.refl _) .nil))))) (Reown.dropN 1 _ rfl) (fun _ h => by first | exact h | simp [h])⟩
    · skip
      have hge : p.length ≤ j := by simpa using c2
      refine J.exit ?_
      refine thenQ.x ?_
      refine thenQ.x ?_
      refine blkQ.hit ?_
      refine thenQ.n ?_
      refine J.seq ?_
      refine J.region_lit ?_
      refine JL.q rfl rfl rfl (by first | exact QW.load_box 1 ty26 (.tmp rfl) rfl rfl rfl | exact QW.load_box 1 ty26 (.tmp rfl) rfl (take_at (V.cs_length _ _) rfl) (V.cs_length _ _)) ?_
      refine JL.q rfl rfl rfl (QW.call gofn77 (.cons (.tmp rfl) .nil) (clone_rd Vc.self huw)) ?_
      first | refine JL.store_boxF 0 ty26 (.tmp rfl) rfl (.tmp rfl) (by first | rfl | assumption) (rfl) (rfl) rfl ?_ | refine JL.store_boxF 0 ty26 (.tmp rfl) rfl (.tmp rfl) (by first | rfl | assumption) (rfl) (V.cs_length _ _) rfl ?_ | refine JL.store_boxF 0 ty26 (.tmp rfl) rfl (.tmp rfl) (by first | rfl | assumption) (V.cs_length _ _) (rfl) rfl ?_ | refine JL.store_boxF 0 ty26 (.tmp rfl) rfl (.tmp rfl) (by first | rfl | assumption) (V.cs_length _ _) (V.cs_length _ _) rfl ?_ | refine JL.store_box 0 ty26 (.tmp rfl) rfl (.tmp rfl) (by first | rfl | assumption) rfl rfl rfl rfl ?_ | refine JL.store_box 0 ty26 (.tmp rfl) rfl (.tmp rfl) (by first | rfl | assumption) (V.cs_length _ _) rfl rfl rfl ?_
      refine JL.q rfl rfl rfl (QW.assign .const) ?_
      refine JL.nil ?_
      refine thenQ.n ?_
      refine J.ret ?_
      rw [List.drop_of_length_le hge] at hwk
      exact ⟨_, selP [.k, .k] _, _, RetEv.two rfl (by first | exact REv.cell 0 ty26 rfl rfl rfl rfl (.refl _) | exact REv.cell 0 ty26 rfl rfl (take_at (V.cs_length _ _) rfl) (V.cs_length _ _) (.refl _)) (REv.tmp rfl (.refl _)), rfl, sel_perm [.k, .k] _, ⟨congrArg Res.ret (getAV_of (u := u) (e := 0) (by rw [V.getv, if_neg (by simp [c1]), hwk]; rfl)).symm, rfl⟩⟩
end Go.Proofs.Ytkiankpmkglhcaa.J

/- Walks: a new item in an owned value. -/
namespace Go.Proofs.Ytkiankpmkglhcaa.J
open Go Go.RowKit
set_option linter.unusedVariables false
set_option linter.unusedSimpArgs false
set_option maxRecDepth 10000
set_option maxHeartbeats 4000000
theorem fnd_cases {v : V} {s : StT} {i : Nat} {e : Int} (h : v.fnd s = (i, e)) : e = 0 ∨ (e = 71 ∧ s.isKey = true ∧ v.kind = 5 ∧ i ≤ v.keys.length) ∨ (e = 82 ∧ s.isKey = false ∧ v.kind = 4 ∧ i = 0) ∨ (e = 81 ∧ i = 0) := by
  unfold V.fnd at h
  split at h
  · rename_i h1
    split at h
    · rename_i h2
      split at h
      · exact .inl (congrArg Prod.snd h).symm
      · cases h; exact .inr (.inl ⟨rfl, h1, h2, low_le _ _⟩)
    · cases h; exact .inr (.inr (.inr ⟨rfl, rfl⟩))
  · rename_i h1
    split at h
    · rename_i h2
      split at h
      · cases h; exact .inr (.inr (.inl ⟨rfl, by simpa using h1, h2, rfl⟩))
      · exact .inl (congrArg Prod.snd h).symm
    · cases h; exact .inr (.inr (.inr ⟨rfl, rfl⟩))
def V.stp (u : V) (s : StT) (last : Bool) : V × Nat × Int :=
  if (u.fnd s).2 = 0 then (u, (u.fnd s).1, 0) else if last = true then (if (u.grw s (u.fnd s).1 (u.fnd s).2).2 = 0 then (u.ins s (u.grw s (u.fnd s).1 (u.fnd s).2).1 .nil, (u.grw s (u.fnd s).1 (u.fnd s).2).1, 0) else (u, (u.grw s (u.fnd s).1 (u.fnd s).2).1, (u.grw s (u.fnd s).1 (u.fnd s).2).2))
  else (u, (u.fnd s).1, (u.fnd s).2)
def GrowR (z : At) (s : StT) : AV → List Own → Prop := fun x o => ∃ kv iv ok oi, x = .tup [.c (.int .i64 ((z.u.stp s true).2.1 : Int)), .c (.int .i64 (z.u.stp s true).2.2)] ∧ o = [.box z.b (holeC z (z.u.stp s true).1 kv iv), ok, oi] ∧ VTr (z.u.stp s true).1 kv iv ok oi
theorem GrowR.no {z : At} {s : StT} {i m : Nat} {e f : Int} {ok oi : Own} {o : List Own} (h : z.u.fnd s = (i, e)) (he : e ≠ 0) (hg : z.u.grw s i e = (m, f)) (hf : f ≠ 0) (ho : o = [.box z.b (holeC z z.u z.kv z.iv), ok, oi]) (hV : VTr z.u z.kv z.iv ok oi) : GrowR z s (.tup [.c (.int .i64 (m : Int)), .c (.int .i64 f)]) o := by
  have : z.u.stp s true = (z.u, m, f) := by simp [V.stp, h, he, hg, hf]
  exact ⟨z.kv, z.iv, ok, oi, by rw [this], by rw [this]; exact ho, by rw [this]; exact hV⟩
theorem GrowR.yes {z : At} {s : StT} {i m : Nat} {e : Int} {kv iv : Value} {ok oi : Own} {o : List Own} (h : z.u.fnd s = (i, e)) (he : e ≠ 0) (hg : z.u.grw s i e = (m, 0)) (ho : o = [.box z.b (holeC z z.u kv iv), ok, oi]) (hV : VTr (z.u.ins s m .nil) kv iv ok oi) : GrowR z s (.tup [.c (.int .i64 (m : Int)), .c (.int .i64 0)]) o := by
  have : z.u.stp s true = (z.u.ins s m .nil, m, 0) := by simp [V.stp, h, he, hg]
  exact ⟨kv, iv, ok, oi, by rw [this], by rw [this]; exact ho, by rw [this]; exact hV⟩
theorem hole_setK {z : At} {u : V} {kv kv2 iv : Value} (h : z.pre.length = z.off) : splice (holeC z u kv iv) (z.off + 3) [.c kv2] = holeC z u kv2 iv := (hole_set h (by decide)).trans (by rw [holeC_eq]; rfl)
theorem hole_setI {z : At} {u : V} {kv iv iv2 : Value} (h : z.pre.length = z.off) : splice (holeC z u kv iv) (z.off + 4) [.c iv2] = holeC z u kv iv2 := (hole_set h (by decide)).trans (by rw [holeC_eq]; rfl)
theorem strs_trL : ∀ {ks : List Str} {us : List Value} {o : Own}, TrL (keysAV ks).flatten us o → us = ks.map str
  | [], us, o, h => by cases h; rfl
  | s :: ks, us, o, h => by
    simp only [keysAV, List.map_cons, List.flatten_cons, List.singleton_append] at h
    cases h with
    | cons h1 h2 ho => rw [h1.c_inv, strs_trL h2]; rfl
theorem one_cells : ∀ {cs : List (List AV)} {ks : List Str}, (∀ x ∈ cs, x.length = 1) → cs.flatten = (ks.map str).map AV.c → cs = keysAV ks
  | [], [], _, _ => rfl
  | [], _ :: _, _, h => by simp at h
  | c :: cs, ks, h1, h => by
    obtain ⟨x, rfl⟩ := List.length_eq_one_iff.1 (h1 c (by simp))
    cases ks with
    | nil => simp at h
    | cons k ks =>
      simp only [List.flatten_cons, List.singleton_append, List.map_cons, List.cons.injEq] at h
      rw [one_cells (fun x hx => h1 x (by simp [hx])) h.2, h.1]
      rfl
theorem keys_cs {cs : List (List AV)} {ks : List Str} {us : List Value} {o : Own} (h1 : cs.flatten = us.map AV.c) (h3 : ∀ x ∈ cs, x.length = 1) (h : TrL (keysAV ks).flatten us o) : cs = keysAV ks := by
  rw [strs_trL h] at h1
  exact one_cells h3 h1
def nilC : List AV := [.c (.int .i64 0), .c (.int .u64 0), .c (str []), .c (.slice none 0 0), .c (.slice none 0 0)]
theorem OwnEq.noArr (e : ETy) : OwnEq (.grp [.arr (.slice none 0 0) e [], .grp []]) (.grp []) := ⟨fun b => by simp [Own.fp, Own.fpl, arrFp], fun w A => by
  simp only [ok_grp, List.forall_mem_cons, List.not_mem_nil, false_implies, implies_true, and_true, iff_true]
  exact .inl ⟨_, rfl, rfl⟩⟩
theorem nil_slTr (e : ETy) : Tr (.sl true false e []) (.slice none 0 0) (.grp []) := .sl (us := []) (o := .grp []) rfl rfl (fun _ h => by cases h) (fun _ h => by cases h) rfl (by simp) (.nil (.refl _)) (OwnEq.noArr e)
theorem nil_VTr : VTr .nil (.slice none 0 0) (.slice none 0 0) (.grp []) (.grp []) := ⟨rfl, rfl, nil_slTr eStr, nil_slTr eV⟩
/-- The items with a new one among them. -/
theorem ins_tr {is : List V} {cs : List (List AV)} {us : List Value} {o : Own} {m : Nat} {v : Value} (hm : m ≤ is.length) (hl : cs.length = is.length) (h3 : ∀ x ∈ cs, x.length = 5) (hf : cs.flatten = us.map AV.c) (h1 : us.all (·.oneCell') = true) (h : TrL (V.css true is).flatten us o) (h6 : (is.length + 1) * 80 ≤ reach) :
    Tr (.sl true false eV (V.css true (is.take m ++ [V.nil] ++ is.drop m))) v (.grp [.arr v eV (cs.take m ++ [nilC] ++ cs.drop m), o]) := by
  have hsp : (V.css true is).flatten = (V.css true (is.take m)).flatten ++ (V.css true (is.drop m)).flatten := by
    rw [← List.flatten_append, ← V.css_append, List.take_append_drop]
  rw [hsp] at h
  obtain ⟨u1, u2, o1, o2, rfl, g1, g2, g3⟩ := h.split
  rw [List.all_append, Bool.and_eq_true] at h1
  have hlen : (cs.take m).flatten.length = u1.length := by
    rw [← g1.length, flatten_length (sz := 5) _ (fun x hx => h3 x (List.mem_of_mem_take hx)), flatten_length (sz := 5) _ (V.css_sz true _), V.css_length, List.length_take, List.length_take, hl]
  have hf2 : (cs.take m).flatten ++ (cs.drop m).flatten = u1.map AV.c ++ u2.map AV.c := by
    rw [← List.flatten_append, List.take_append_drop, hf, List.map_append]
  obtain ⟨k1, k2⟩ := List.append_inj hf2 (by simpa using hlen)
  have htl : TrL (V.css true (is.take m ++ [V.nil] ++ is.drop m)).flatten (u1 ++ V.vals .nil (.slice none 0 0) (.slice none 0 0) ++ u2) o := by
    rw [V.css_append, V.css_append, List.flatten_append, List.flatten_append]
    have hn : (V.css true [V.nil]).flatten = V.nil.cs true := by simp [V.css]
    rw [hn]
    refine (g1.append nil_VTr.trL (o'' := o1) ?_).append g2 g3
    refine (OwnEq.grp_perm (List.Perm.swap _ _ _)).trans (OwnEq.trans (.cons ?_ (.refl _)) (OwnEq.drops _))
    exact (OwnEq.nest [] [.grp []]).trans (OwnEq.one _)
  refine items_tr (us := u1 ++ V.vals .nil (.slice none 0 0) (.slice none 0 0) ++ u2) ?_ ?_ ?_ ?_ ?_ htl
  · rw [List.flatten_append, List.flatten_append, k1, k2, List.map_append, List.map_append]
    rfl
  · simp only [List.length_append, List.length_take, List.length_drop, List.length_singleton]; omega
  · intro x hx
    simp only [List.mem_append, List.mem_singleton] at hx
    rcases hx with (hx | rfl) | hx
    · exact h3 x (List.mem_of_mem_take hx)
    · rfl
    · exact h3 x (List.mem_of_mem_drop hx)
  · rw [List.all_append, List.all_append, h1.1, h1.2, nil_VTr.ones]; rfl
  · simp only [List.length_append, List.length_take, List.length_drop, List.length_singleton]; unfold reach at h6 ⊢; omega
theorem keysAV_ins (ks : List Str) (s : Str) (m : Nat) : (keysAV ks).take m ++ [[.c (str s)]] ++ (keysAV ks).drop m = keysAV (ks.take m ++ [s] ++ ks.drop m) := by simp [keysAV, List.map_take, List.map_drop]
theorem grow_ok {z : At} {s : StT} {zs : List AV} {i : Nat} {e : Int} (hs : Sc s zs) (ho : z.pre.length = z.off) (hV : VTr z.u z.kv z.iv z.ok z.oi) (hp : partOk z.u = true) (hw : z.u.wf) (hsw : s.wf) (hie : z.u.fnd s = (i, e)) (he0 : e ≠ 0) : AC Try.prog 80 [.box z.b (holeC z z.u z.kv z.iv), z.ok, z.oi] [.c (.pointer (some ⟨z.b, z.off, none⟩)), .agg zs, .c (.int .i64 (i : Int)), .c (.int .i64 e)] (RetR (GrowR z s)) := by
  subst hs
  obtain ⟨l1, l2⟩ := partOk_len hp
  have hcs := (fnd_cases hie).resolve_left he0
  obtain ⟨ck, uk, o1, p1, p2, p3, p4, p5, p6⟩ := hV.ks.inv
  obtain ⟨ci, ui, o2, q1, q2, q3, q4, q5, q6⟩ := hV.is.inv
  obtain rfl := keys_cs p1 p3 p5
  rw [V.css_length] at q2
  have hkr : z.u.keys.length * 16 ≤ reach := by unfold reach; omega
  have hir : z.u.items.length * 80 ≤ reach := by unfold reach; omega
  have hV2 : VTr z.u z.kv z.iv (.arr z.kv eStr (keysAV z.u.keys)) (.grp [.arr z.iv eV ci, o2]) := ⟨hV.k1, hV.i1, keys_tr hkr, items_tr q1 q2 q3 q4 hir q5⟩
  refine AC.of_J Try.func80 rfl Try.ntmps80 rfl fun w0 A0 => ?_
  refine J.seq ?_
  refine J.reown (Reown.cons (Reown.spoil p6 q6)) ?_
  refine J.region_lit ?_
  refine JL.box_agg (.tmp rfl) rfl fun b5 => ?_
  refine JL.q rfl rfl rfl (QW.assign .const) ?_
  refine JL.q rfl rfl rfl (QW.assign .const) ?_
  refine JL.nil ?_
  refine thenQ.n ?_
  refine J.cutK (ι := Nat) [0, 5] (fun m => [(2, .c (.int .i64 (m : Int)))]) (fun m oo => oo) (fun m => z.u.grw s i e = (if 32 ≤ z.u.items.length then (0, 3) else (m, 0)) ∧ m ≤ z.u.items.length ∧ (s.isKey = true → m ≤ z.u.keys.length)) ?_ ?_
  · skip
    refine J.block ?_
    refine J.seq ?_
    refine J.region_lit ?_
    refine JL.q rfl rfl rfl (QW.move (.tmp rfl)) ?_
    refine JL.q rfl rfl rfl (QW.eql (.tmp rfl) .const) ?_
    refine JL.q rfl rfl rfl (QW.move (.tmp rfl)) ?_
    refine JL.g rfl rfl rfl rfl rfl (fun hg => (QW.field_ptr fo48_1 (.tmp rfl) rfl)) ?_
    refine JL.g rfl rfl rfl rfl rfl (fun hg => (QW.load_box1 0 ty9 (.when rfl hg) rfl rfl)) ?_
    refine JL.g rfl rfl rfl rfl rfl (fun hg => (QW.call gofn110 (.cons (.when rfl hg) .nil) (key_ok _))) ?_
    refine JL.g rfl rfl rfl rfl rfl (fun hg => (QW.not (.when rfl hg))) ?_
    refine JL.q rfl rfl rfl (QW.pick_and (.tmp rfl) (.tmp rfl)) ?_
    refine JL.q rfl rfl rfl (QW.assign (.tmp rfl)) ?_
    refine JL.nil ?_
    refine thenQ.n ?_
    refine J.cond (.tmp rfl) (fun c1 => ?_) (fun c1 => ?_)
    · skip
      have ht1 : e = 71 ∧ keyOk s.key = false := by simpa using c1
      refine J.seq ?_
      refine J.reown (Reown.cons (Reown.cons (Reown.cons (Reown.grp2 _ _ _)))) ?_
      refine J.region_lit ?_
      refine JL.q rfl rfl rfl (QW.assign .const) ?_
      refine JL.q rfl rfl rfl (QW.assign .const) ?_
      refine JL.nil ?_
      refine thenQ.n ?_
      refine J.ret ?_
      refine blkQ.r ?_
      refine thenQ.r ?_
      exact ⟨_, selP [.k, .p, .p, .p] _, _, RetEv.two rfl (REv.tmp rfl (.refl _)) (REv.tmp rfl (.refl _)), rfl, sel_perm [.k, .p, .p, .p] _, ⟨_, rfl, GrowR.no (m := 0) (f := 31) hie he0 (by unfold V.grw; rw [if_pos ht1]) (by first | decide | assumption | omega) rfl hV2⟩⟩
    · skip
      have hf1 : ¬ (e = 71 ∧ keyOk s.key = false) := by intro hh; simp [hh.1, hh.2] at c1
      refine J.seq ?_
      refine J.region_tailK 10 mixed (by kernel_rfl) (by kernel_rfl) (by kernel_rfl) rfl ?_
      refine .cons [] rfl rfl rfl (.q rfl (QW.move (.tmp rfl))) ?_
      refine .cons [20] rfl rfl rfl (.q rfl (QW.eql (.tmp rfl) .const)) ?_
      refine .cons [21] rfl rfl rfl (.q rfl (QW.move (.tmp rfl))) ?_
      refine .cons [22] rfl rfl rfl (.g rfl rfl rfl (fun hg => (QW.field_ptr fo48_2 (.tmp rfl) rfl))) ?_
      refine .cons [23, 22] rfl rfl rfl (.g rfl rfl rfl (fun hg => (QW.load_box1 0 ty3 (.when rfl hg) rfl rfl))) ?_
      refine .cons [22] rfl rfl rfl (.g rfl rfl rfl (fun hg => (QW.move (.tmp rfl)))) ?_
      refine .cons [25, 22] rfl rfl rfl (.g rfl rfl rfl (fun hg => (QW.nil_ptr (.when rfl hg)))) ?_
      refine .cons [26, 22] rfl rfl rfl (.g rfl rfl rfl (fun hg => (QW.field_ptr fo26_4 (.when rfl hg) rfl))) ?_
      refine .cons [27, 22] rfl rfl rfl (.g rfl rfl rfl (fun hg => (QW.load_box1 1 ty24 (.when rfl hg) rfl ((hole_at ho 4 (by decide)).trans rfl)))) ?_
      refine .cons [28, 22] rfl rfl rfl (.g rfl rfl rfl (fun hg => (QW.len_arr 3 sl24 (.when rfl hg) rfl))) ?_
      refine .nil ?_
      refine JL.g rfl rfl rfl rfl rfl (fun hg => (QW.eql (.when rfl hg) (.when rfl hg))) ?_
      refine JL.q rfl rfl rfl (QW.pick_and (.tmp rfl) (.tmp rfl)) ?_
      refine JL.q rfl rfl rfl (QW.assign (.tmp rfl)) ?_
      refine JL.nil ?_
      refine thenQ.n ?_
      refine J.cond (.tmp rfl) (fun c2 => ?_) (fun c2 => ?_)
      · skip
        have ht2 : e = 82 ∧ s.index = (z.u.items.length : Int) := by simpa [q2] using c2
        refine J.region_lit ?_
        refine JL.q rfl rfl rfl (QW.field_ptr fo48_2 (.tmp rfl) rfl) ?_
        refine JL.q rfl rfl rfl (QW.load_box1 0 ty3 (.tmp rfl) rfl rfl) ?_
        refine JL.q rfl rfl rfl (QW.assign (.tmp rfl)) ?_
        refine JL.nil ?_
        refine blkQ.n ?_
        refine thenQ.n ?_
        exact ⟨z.u.items.length, ⟨by unfold V.grw; rw [if_neg hf1, if_pos ht2], Nat.le_refl _, fun hk => absurd hk (by rcases hcs with h | h | h; (exact absurd (h.1.symm.trans ht2.1) (by decide)); (rw [h.2.1]; decide); (exact absurd (h.1.symm.trans ht2.1) (by decide)))⟩, Wk.re (.cons rfl (Le.intE ht2.2) (.cons rfl (.refl _) (.cons rfl (.refl _) .nil))) (Reown.refl _) (fun _ h => by first | exact h | simp [h])⟩
      · skip
        have hf2 : ¬ (e = 82 ∧ s.index = (z.u.items.length : Int)) := by intro hh; simp [hh.1, hh.2, q2] at c2
        refine J.seq ?_
        refine J.region_lit ?_
        refine JL.q rfl rfl rfl (QW.move (.tmp rfl)) ?_
        refine JL.q rfl rfl rfl (QW.neq (.tmp rfl) .const) ?_
        refine JL.q rfl rfl rfl (QW.assign (.tmp rfl)) ?_
        refine JL.nil ?_
        refine thenQ.n ?_
        refine J.cond (.tmp rfl) (fun c3 => ?_) (fun c3 => ?_)
        · skip
          have ht3 : e ≠ 71 := by simpa using c3
          refine J.seq ?_
          refine J.reown (Reown.cons (Reown.cons (Reown.cons (Reown.grp2 _ _ _)))) ?_
          refine J.region_lit ?_
          refine JL.q rfl rfl rfl (QW.move (.tmp rfl)) ?_
          refine JL.q rfl rfl rfl (QW.assign .const) ?_
          refine JL.q rfl rfl rfl (QW.assign (.tmp rfl)) ?_
          refine JL.nil ?_
          refine thenQ.n ?_
          refine J.ret ?_
          refine blkQ.r ?_
          refine thenQ.r ?_
          exact ⟨_, selP [.k, .p, .p, .p] _, _, RetEv.two rfl (REv.tmp rfl (.refl _)) (REv.tmp rfl (.refl _)), rfl, sel_perm [.k, .p, .p, .p] _, ⟨_, rfl, GrowR.no (m := 0) (f := e) hie he0 (by unfold V.grw; rw [if_neg hf1, if_neg hf2, if_pos ht3]) (by first | decide | assumption | omega) rfl hV2⟩⟩
        · skip
          have h71 : e = 71 := by simpa using c3
          have h5 : s.isKey = true ∧ z.u.kind = 5 ∧ i ≤ z.u.keys.length := by
            rcases hcs with h | h | h
            · exact h.2
            · exact absurd (h.1.symm.trans h71) (by decide)
            · exact absurd (h.1.symm.trans h71) (by decide)
          have hkl := (partOk_rec hp h5.2.1).1
          refine J.skip ?_
          refine blkQ.n ?_
          refine thenQ.n ?_
          exact ⟨i, ⟨by unfold V.grw; rw [if_neg hf1, if_neg hf2, if_neg (by simp [h71])], by omega, fun _ => h5.2.2⟩, Wk.re (.cons rfl (.refl _) (.cons rfl (.refl _) (.cons rfl (.refl _) .nil))) (Reown.refl _) (fun _ h => by first | exact h | simp [h])⟩
  · intro m ⟨hgm, hmi, hmk⟩
    refine J.conv (by (try simp only [id_eq, stepsO, List.map_cons, List.map_nil, valO, nthO, curO, mrg, List.reverse_cons, List.reverse_nil, List.nil_append, List.cons_append, List.append_nil, List.getElem?_cons_zero, List.getElem?_cons_succ, Option.map_some, Option.getD_some, List.set_cons_zero, List.set_cons_succ, AV.cellsOf, splice_zero, splice_succ, Nat.zero_add, Nat.reduceAdd]); rfl) ?_
    refine J.seq ?_
    refine J.seq ?_
    refine J.region_lit ?_
    refine JL.q rfl rfl rfl (QW.move (.tmp rfl)) ?_
    refine JL.q rfl rfl rfl (QW.nil_ptr (.tmp rfl)) ?_
    refine JL.q rfl rfl rfl (QW.field_ptr fo26_4 (.tmp rfl) rfl) ?_
    refine JL.q rfl rfl rfl (QW.load_box1 1 ty24 (.tmp rfl) rfl ((hole_at ho 4 (by decide)).trans rfl)) ?_
    refine JL.q rfl rfl rfl (QW.len_arr 3 sl24 (.tmp rfl) rfl) ?_
    refine JL.q rfl rfl rfl (QW.geq (.tmp rfl) .const) ?_
    refine JL.nil ?_
    refine thenQ.n ?_
    refine J.cond (.tmp rfl) (fun c1 => ?_) (fun c1 => ?_)
    · skip
      have h32 : 32 ≤ z.u.items.length := by (simp [q2] at c1; omega)
      refine J.seq ?_
      refine J.reown (Reown.cons (Reown.cons (Reown.cons (Reown.grp2 _ _ _)))) ?_
      refine J.region_lit ?_
      refine JL.q rfl rfl rfl (QW.assign .const) ?_
      refine JL.q rfl rfl rfl (QW.assign .const) ?_
      refine JL.nil ?_
      refine thenQ.n ?_
      refine J.ret ?_
      refine thenQ.r ?_
      exact ⟨_, selP [.k, .p, .p, .p] _, _, RetEv.two rfl (REv.tmp rfl (.refl _)) (REv.tmp rfl (.refl _)), rfl, sel_perm [.k, .p, .p, .p] _, ⟨_, rfl, GrowR.no (m := 0) (f := 3) hie he0 (by rw [hgm, if_pos h32]) (by first | decide | assumption | omega) rfl hV2⟩⟩
    · skip
      have h32 : ¬ 32 ≤ z.u.items.length := by (simp [q2] at c1; omega)
      refine J.skip ?_
      refine thenQ.n ?_
      refine J.cutK (ι := Value × List Str) [0, 2] (fun ⟨kv2, ks2⟩ => []) (fun ⟨kv2, ks2⟩ oo => List.set (List.set oo 1 (.box z.b (holeC z z.u kv2 z.iv))) 2 (.arr kv2 eStr (keysAV ks2))) (fun ⟨kv2, ks2⟩ => kv2.oneCell' = true ∧ ks2 = (if s.isKey = true then z.u.keys.take m ++ [s.key] ++ z.u.keys.drop m else z.u.keys)) ?_ ?_
      · skip
        refine J.seq ?_
        refine J.region_lit ?_
        refine JL.q rfl rfl rfl (QW.field_ptr fo48_0 (.tmp rfl) rfl) ?_
        refine JL.q rfl rfl rfl (QW.load_box1 0 ty4 (.tmp rfl) rfl rfl) ?_
        refine JL.nil ?_
        refine thenQ.n ?_
        refine J.cond (.tmp rfl) (fun c2 => ?_) (fun c2 => ?_)
        · skip
          have hK : s.isKey = true := c2
          refine J.region_outK 10 1 (fun os_ ow_ x_ o_ => match os_ with | [] => (∃ o2_, (CloneR eStr ((keysAV z.u.keys).take m ++ [[.c (str s.key)]] ++ (keysAV z.u.keys).drop m)) x_ o2_ ∧ o_ = mrg [.k, .k, .p] o2_ ow_) | _ => False) mixed (by kernel_rfl) (by kernel_rfl) (by kernel_rfl) rfl ?_
          refine OutK.quiet [] rfl rfl rfl (fun qs_ qv_ ql_ => (.q rfl (QW.move (.tmp rfl)))) ?_
          refine OutK.quiet [] rfl rfl rfl (fun qs_ qv_ ql_ => (.q rfl (QW.move (.tmp rfl)))) ?_
          refine OutK.quiet [47] rfl rfl rfl (fun qs_ qv_ ql_ => (.q rfl (QW.nil_ptr (.tmp rfl)))) ?_
          refine OutK.quiet [48] rfl rfl rfl (fun qs_ qv_ ql_ => (.q rfl (QW.field_ptr fo26_3 (.tmp rfl) rfl))) ?_
          refine OutK.quiet [49] rfl rfl rfl (fun qs_ qv_ ql_ => by
              rcases qs_ with _ | ⟨⟨y0, p0⟩, qs_⟩
              · skip
                exact (.q rfl (QW.load_box1 1 ty23 (.tmp rfl) rfl ((hole_at ho 3 (by decide)).trans rfl)))
              rcases qs_ with _ | ⟨⟨y1, p1⟩, qs_⟩
              · skip
                obtain ⟨hr0, _⟩ := qv_
                obtain ⟨o55, ⟨v55, rfl, hs55, rfl⟩, rfl⟩ := hr0
                exact (.q rfl (QW.load_box1 1 ty23 (.tmp rfl) rfl ((hole_at ho 3 (by decide)).trans rfl)))
              exact absurd ql_ (by simp)) ?_
          refine OutK.quiet [] rfl rfl rfl (fun qs_ qv_ ql_ => (.q rfl (QW.move (.tmp rfl)))) ?_
          refine OutK.quiet [] rfl rfl rfl (fun qs_ qv_ ql_ => (.q rfl (QW.field_ptr fo48_1 (.tmp rfl) rfl))) ?_
          refine OutK.quiet [52] rfl rfl rfl (fun qs_ qv_ ql_ => by
              rcases qs_ with _ | ⟨⟨y0, p0⟩, qs_⟩
              · skip
                exact (.q rfl (QW.load_box1 0 ty9 (.tmp rfl) rfl rfl))
              rcases qs_ with _ | ⟨⟨y1, p1⟩, qs_⟩
              · skip
                obtain ⟨hr0, _⟩ := qv_
                obtain ⟨o55, ⟨v55, rfl, hs55, rfl⟩, rfl⟩ := hr0
                exact (.q rfl (QW.load_box1 0 ty9 (.tmp rfl) rfl rfl))
              exact absurd ql_ (by simp)) ?_
          refine OutK.quiet [53] rfl rfl rfl (fun qs_ qv_ ql_ => (.q rfl (QW.buildSlice (idx := [0]) (xs := [[.c (str s.key)]]) sl23 el9 z9 rfl (.cons (.tmp rfl) .nil) rfl rfl rfl rfl rfl rfl rfl rfl rfl))) ?_
          refine OutK.loud [50, 51, 54] rfl rfl rfl rfl rfl (fun qs_ qv_ ql_ => by
              obtain rfl : qs_ = [] := List.length_eq_zero_iff.1 ql_
              exact LStepR.callRF (d := 55) [.k, .k, .p] gofn111 Lent.nil (fun _ => (.cons (.tmp rfl) (.cons (.tmp rfl) (.cons (.tmp rfl) .nil)))) (insStr_ok (xs := keysAV z.u.keys) (i := m) (by rw [keysAV_length]; exact hmk hK) rfl (by rw [keysAV_length]; unfold reach; omega)) (.inl rfl)) ?_
          refine .nil fun qs_ qv_ ql_ => ?_
          obtain ⟨⟨y0, p0⟩, qs_, rfl⟩ : ∃ p t, qs_ = p :: t := by (cases qs_ with | nil => simp at ql_ | cons p t => exact ⟨p, t, rfl⟩)
          obtain rfl : qs_ = [] := List.length_eq_zero_iff.1 (by simpa using ql_)
          obtain ⟨hr0, _⟩ := qv_
          obtain ⟨o55, ⟨v55, rfl, hs55, rfl⟩, rfl⟩ := hr0
          refine JL.conv (by (try simp only [id_eq, stepsO, List.map_cons, List.map_nil, valO, nthO, curO, mrg, List.reverse_cons, List.reverse_nil, List.nil_append, List.cons_append, List.append_nil, List.getElem?_cons_zero, List.getElem?_cons_succ, Option.map_some, Option.getD_some, List.set_cons_zero, List.set_cons_succ, AV.cellsOf, splice_zero, splice_succ, Nat.zero_add, Nat.reduceAdd]); rfl) ?_
          refine JL.q rfl rfl rfl (QW.nil_ptr (.tmp rfl)) ?_
          refine JL.q rfl rfl rfl (QW.field_ptr fo26_3 (.tmp rfl) rfl) ?_
          refine JL.store_box 1 ty23 (.tmp rfl) rfl (.tmp rfl) (by first | rfl | assumption) rfl (by rw [hole_len _ _ _ _ ho]; exact Nat.ble_eq_true_of_le (by omega)) (hole_setK ho) rfl ?_
          refine JL.nil ?_
          refine thenQ.n ?_
          exact ⟨⟨v55, z.u.keys.take m ++ [s.key] ++ z.u.keys.drop m⟩, ⟨hs55, by rw [if_pos hK]⟩, Wk.re (.cons rfl (.refl _) (.cons rfl (.refl _) .nil)) (Reown.ofEq (by show [_, Own.box z.b _, Own.arr v55 eStr _, _, _] = _; rw [keysAV_ins]; rfl)) (fun _ h => by first | exact h | simp [h])⟩
        · skip
          have hK : s.isKey = false := c2
          refine J.skip ?_
          refine thenQ.n ?_
          exact ⟨⟨z.kv, z.u.keys⟩, ⟨hV.k1, by rw [if_neg (by simp [hK])]⟩, Wk.re (.cons rfl (.refl _) (.cons rfl (.refl _) .nil)) (Reown.refl _) (fun _ h => by first | exact h | simp [h])⟩
      · intro ⟨kv2, ks2⟩ ⟨hk2, hks2⟩
        refine J.conv (by (try simp only [id_eq, stepsO, List.map_cons, List.map_nil, valO, nthO, curO, mrg, List.reverse_cons, List.reverse_nil, List.nil_append, List.cons_append, List.append_nil, List.getElem?_cons_zero, List.getElem?_cons_succ, Option.map_some, Option.getD_some, List.set_cons_zero, List.set_cons_succ, AV.cellsOf, splice_zero, splice_succ, Nat.zero_add, Nat.reduceAdd]); rfl) ?_
        refine J.seq ?_
        refine J.region_lit ?_
        refine JL.q rfl rfl rfl (QW.move (.tmp rfl)) ?_
        refine JL.q rfl rfl rfl (QW.move (.tmp rfl)) ?_
        refine JL.q rfl rfl rfl (QW.nil_ptr (.tmp rfl)) ?_
        refine JL.q rfl rfl rfl (QW.field_ptr fo26_4 (.tmp rfl) rfl) ?_
        refine JL.q rfl rfl rfl (QW.load_box1 1 ty24 (.tmp rfl) rfl ((hole_at ho 4 (by decide)).trans rfl)) ?_
        refine JL.q rfl rfl rfl (QW.move (.tmp rfl)) ?_
        refine JL.q rfl rfl rfl (QW.build (idx := []) pl26 z26 rfl .nil rfl rfl rfl rfl) ?_
        refine JL.q rfl rfl rfl (QW.buildSlice (idx := [0]) (xs := [nilC]) sl24 el26 z26 rfl (.cons (.tmp rfl) .nil) rfl rfl rfl rfl rfl rfl rfl rfl rfl) ?_
        refine JL.callRF [.k, .k, .k, .p] gofn112 rfl Lent.nil (fun _ => (.cons (.tmp rfl) (.cons (.tmp rfl) (.cons (.tmp rfl) .nil)))) (insVal_ok (xs := ci) (i := m) (by omega) rfl (by unfold reach; omega)) (.inl rfl) fun x66 o66 h66 => ?_
        obtain ⟨v66, rfl, hs66, rfl⟩ := h66
        refine JL.q rfl rfl rfl (QW.nil_ptr (.tmp rfl)) ?_
        refine JL.q rfl rfl rfl (QW.field_ptr fo26_4 (.tmp rfl) rfl) ?_
        refine JL.store_box 1 ty24 (.tmp rfl) rfl (.tmp rfl) (by first | rfl | assumption) rfl (by rw [hole_len _ _ _ _ ho]; exact Nat.ble_eq_true_of_le (by omega)) (hole_setI ho) rfl ?_
        refine JL.nil ?_
        refine thenQ.n ?_
        refine J.seq ?_
        refine J.reown (Reown.cons (Reown.cons (Reown.cons (Reown.grp2 _ _ _)))) ?_
        refine J.region_lit ?_
        refine JL.q rfl rfl rfl (QW.move (.tmp rfl)) ?_
        refine JL.q rfl rfl rfl (QW.assign (.tmp rfl)) ?_
        refine JL.q rfl rfl rfl (QW.assign .const) ?_
        refine JL.nil ?_
        refine thenQ.n ?_
        refine J.ret ?_
        exact ⟨_, selP [.k, .p, .p, .p] _, _, RetEv.two rfl (REv.tmp rfl (.refl _)) (REv.tmp rfl (.refl _)), rfl, sel_perm [.k, .p, .p, .p] _, ⟨_, rfl, GrowR.yes (m := m) hie he0 (by rw [hgm, if_neg h32]) rfl ⟨hk2, hs66, by (rw [show (z.u.ins s m .nil).keys = ks2 from hks2.symm]; exact keys_tr (by rw [hks2]; split <;> ((try simp only [List.length_append, List.length_take, List.length_drop, List.length_singleton]); unfold reach; omega))), ins_tr hmi q2 q3 q1 q4 q5 (by unfold reach; omega)⟩⟩⟩
end Go.Proofs.Ytkiankpmkglhcaa.J

/- Walks: a part of a value is another one. -/
namespace Go.Proofs.Ytkiankpmkglhcaa.J
open Go Go.RowKit
set_option linter.unusedVariables false
set_option linter.unusedSimpArgs false
set_option maxRecDepth 10000
set_option maxHeartbeats 4000000
theorem V.nil_fine : V.nil.Fine := .mk rfl fun _ h => by cases h
theorem V.ins_get {u : V} {s : StT} {m : Nat} (hm : m ≤ u.items.length) : ∃ h : m < (u.ins s m .nil).items.length, (u.ins s m .nil).items[m] = .nil := by
  have hl : m < (u.items.take m ++ [V.nil] ++ u.items.drop m).length := by simp; omega
  refine ⟨hl, ?_⟩
  show (u.items.take m ++ [V.nil] ++ u.items.drop m)[m]'hl = .nil
  simp [List.getElem_append, Nat.min_eq_left hm]
theorem V.ins_set {u x : V} {s : StT} {m : Nat} (hm : m ≤ u.items.length) : (u.ins s m .nil).setAt m x = u.ins s m x := by
  obtain ⟨k, b, t, ks, is⟩ := u
  simp only [V.items] at hm
  simp only [V.setAt, V.ins, V.kind, V.bits, V.text, V.keys, V.items]
  congr 1
  rw [List.append_assoc, List.set_append_right _ _ (by simp; omega)]
  simp [Nat.min_eq_left hm]
theorem V.grw_le {u : V} {s : StT} {i m : Nat} {e : Int} (hp : partOk u = true) (h : u.fnd s = (i, e)) (he : e ≠ 0) (hg : u.grw s i e = (m, 0)) : m ≤ u.items.length := by
  unfold V.grw at hg
  split at hg
  · cases hg
  · split at hg
    · split at hg
      · cases hg
      · cases hg; exact Nat.le_refl _
    · split at hg
      · rename_i h1 h2 h3
        cases hg; exact absurd rfl he
      · rename_i h3
        split at hg
        · cases hg
        · cases hg
          have h71 : e = 71 := Decidable.byContradiction h3
          rcases fnd_cases h with h | h | h | h
          · exact absurd h he
          · have := (partOk_rec hp h.2.2.1).1; omega
          · omega
          · omega
theorem V.stp_no {u u2 x : V} {s : StT} {r : List StT} {i2 : Nat} {e2 : Int} (h : u.stp s (decide (r = [])) = (u2, i2, e2)) (he : e2 ≠ 0) : u.set (s :: r) x = (.nil, e2) := by
  unfold V.stp at h
  split at h
  · cases h; exact absurd rfl he
  · rename_i h0
    split at h
    · rename_i hr
      have hr : r = [] := by simpa using hr
      subst hr
      split at h
      · cases h; exact absurd rfl he
      · rename_i hg
        cases h
        show u.put s x = _
        rw [V.put, if_neg h0, if_neg hg]
    · rename_i hr
      cases h
      cases r with
      | nil => simp at hr
      | cons t r => rw [V.set, if_pos h0]
theorem V.stp_yes {u u2 x : V} {s : StT} {r : List StT} {i2 : Nat} (hf : u.Fine) (hw : u.wf) (hs : s.wf) (h : u.stp s (decide (r = [])) = (u2, i2, 0)) :
    ∃ hlt : i2 < u2.items.length, u2.wf ∧ u2.items[i2].Fine ∧ u.set (s :: r) x = if (u2.items[i2].set r x).2 ≠ 0 then (.nil, (u2.items[i2].set r x).2) else (u2.setAt i2 (u2.items[i2].set r x).1, 0) := by
  unfold V.stp at h
  split at h
  · rename_i h0
    cases h
    have hlt := V.fnd_lt hf.part h0
    refine ⟨hlt, hw, hf.kid (List.getElem_mem hlt), ?_⟩
    cases r with
    | nil => show u.put s x = _; rw [V.put, if_pos h0]; rfl
    | cons t r => rw [V.set, if_neg (by simp [h0]), V.kid_eq hlt]
  · rename_i h0
    split at h
    · rename_i hr
      have hr : r = [] := by simpa using hr
      subst hr
      split at h
      · rename_i hg
        cases h
        have hm := V.grw_le (m := (u.grw s (u.fnd s).1 (u.fnd s).2).1) hf.part (i := (u.fnd s).1) (e := (u.fnd s).2) rfl h0 (Prod.ext rfl hg)
        obtain ⟨hlt, hnil⟩ := V.ins_get (s := s) hm
        refine ⟨hlt, V.ins_wf hw hf.part hs V.wf_nil, by rw [hnil]; exact V.nil_fine, ?_⟩
        show u.put s x = if (V.set _ [] x).2 ≠ 0 then _ else (V.setAt _ _ x, 0)
        rw [V.put, if_neg h0, if_pos hg, V.ins_set hm]
        rfl
      · rename_i hg
        have := congrArg (·.2.2) h
        exact absurd this hg
    · have := congrArg (·.2.2) h
      exact absurd this h0
def plugR (f : V → V) (w : V × Int) : V × Int := if w.2 ≠ 0 then (.nil, w.2) else (f w.1, 0)
theorem plugR_id (w : V × Int) (h : w.2 ≠ 0 → w.1 = .nil) : plugR id w = w := by
  unfold plugR
  split
  · rename_i h0; rw [← h h0]
  · rename_i h0
    have : w.2 = 0 := Decidable.byContradiction h0
    exact Prod.ext rfl this.symm
theorem V.set_nil : ∀ {p : List StT} {v x : V}, (v.set p x).2 ≠ 0 → (v.set p x).1 = .nil
  | [], v, x, h => absurd rfl h
  | [s], v, x, h => by
    change (v.put s x).2 ≠ 0 at h
    show (v.put s x).1 = .nil
    unfold V.put at h ⊢
    split
    · rename_i h0; rw [if_pos h0] at h; exact absurd rfl h
    · rename_i h0
      rw [if_neg h0] at h
      split
      · rename_i h1; rw [if_pos h1] at h; exact absurd rfl h
      · rfl
  | s :: t :: r, v, x, h => by
    unfold V.set at h ⊢
    split
    · rfl
    · rename_i h0
      rw [if_neg h0] at h
      split
      · rfl
      · rename_i h1; rw [if_neg h1] at h; exact absurd rfl h
theorem plugR_if (f : V → V) (u : V) (i : Nat) (w : V × Int) : plugR f (if w.2 ≠ 0 then (.nil, w.2) else (u.setAt i w.1, 0)) = plugR (fun z => f (u.setAt i z)) w := by
  unfold plugR
  by_cases h : w.2 = 0
  · simp [h]
  · simp [h]
theorem setv_err {v x w : V} {p : List StT} {e : Int} (hv : v.err = 0) (hx : x.err = 0) (h : v.set p x = (w, e)) (he : e ≠ 0) : v.setv p x = (.nil, e) := by rw [V.setv, if_neg (by simp [hv]), if_neg (by simp [hx]), h, if_pos he]
theorem setv_bad {v x w : V} {p : List StT} (hv : v.err = 0) (hx : x.err = 0) (h : v.set p x = (w, 0)) (he : w.err ≠ 0) : v.setv p x = (.nil, w.err) := by rw [V.setv, if_neg (by simp [hv]), if_neg (by simp [hx]), h, if_neg (by simp), if_pos he]
theorem setv_ok {v x w : V} {p : List StT} (hv : v.err = 0) (hx : x.err = 0) (h : v.set p x = (w, 0)) (he : w.err = 0) : v.setv p x = (w, 0) := by rw [V.setv, if_neg (by simp [hv]), if_neg (by simp [hx]), h, if_neg (by simp), if_neg (by simp [he])]
def setAV (v : V) (p : List StT) (x : V) : AV := .tup [.agg ((v.setv p x).1.cs true), .c (.int .i64 (v.setv p x).2)]
theorem setAV_of {v u x : V} {p : List StT} {e : Int} (h : v.setv p x = (u, e)) : setAV v p x = .tup [.agg (u.cs true), .c (.int .i64 e)] := by rw [setAV, h]
theorem fndAV_fresh (v : V) (s : StT) : Fresh (fndAV v s) := .tup (FlL.cons (.c _) (FlL.cons (.c _) .nil))
theorem Reown.rot3 (a b c d : Own) (l : List Own) : Reown (a :: b :: c :: d :: l) (b :: c :: d :: a :: l) := .perm (List.perm_middle (l₁ := [b, c, d])).symm
theorem Reown.step {cur ok bx ctx kids ok3 oi3 ob oa : Own} (h : Reown [kids] [ok3, oi3, ob, oa]) : Reown [cur, ok, bx, ctx, kids] [bx, ok3, oi3, .grp [cur, ok, ob, oa, ctx]] := by
  refine (Reown.left (c := [cur, ok, bx, ctx]) h).trans ⟨fun y => by simp only [fps_cons, fps_nil, fp_grp, List.count_append, List.count_nil, List.cons_append, List.nil_append]; omega, fun w A h => ?_⟩
  simp only [List.forall_mem_cons, List.cons_append, List.nil_append, ok_grp, List.not_mem_nil, false_implies, implies_true, and_true] at h ⊢
  obtain ⟨q1, q2, q3, q4, q5, q6, q7, q8⟩ := h
  exact ⟨q3, q5, q6, q1, q2, q7, q8, q4⟩
theorem Reown.fin {cur ok oi ctx okx oix : Own} {l : List Own} (h : Reown [cur, okx, oix, ctx] l) : Reown [cur, ok, oi, ctx, okx, oix] l := by
  refine Reown.trans ⟨fun y => by simp only [fps_cons, fps_nil, List.count_append, List.count_nil]; omega, fun w A h => ?_⟩ h
  simp only [List.forall_mem_cons, List.not_mem_nil, false_implies, implies_true, and_true] at h ⊢
  exact ⟨h.1, h.2.2.2.2.1, h.2.2.2.2.2, h.2.2.2.1⟩
theorem pair_at {fr : Bool} {v x : V} {j : Nat} (h : j < 2) : ((v.cs fr ++ x.cs fr).drop (j * 5)).take 5 = (if j = 0 then v else x).cs fr := by
  have h1 := V.cs_length fr v
  have h2 := V.cs_length fr x
  rcases Nat.lt_or_ge j 1 with h0 | h0
  · obtain rfl : j = 0 := by omega
    rw [Nat.zero_mul, List.drop_zero, List.take_left' h1]; rfl
  · obtain rfl : j = 1 := by omega
    rw [Nat.one_mul, List.drop_left' h1, List.take_of_length_le (by omega)]; rfl
theorem cells_at {cs : List (List AV)} {sp : List Value} {i : Nat} {c : List AV} (h : cs[i]? = some c) : cs.flatten ++ sp.map AV.c = (cs.take i).flatten ++ c ++ ((cs.drop (i + 1)).flatten ++ sp.map AV.c) := by
  obtain ⟨hi, rfl⟩ := List.getElem?_eq_some_iff.1 h
  have h2 := congrArg List.flatten (show cs = cs.take i ++ cs[i] :: cs.drop (i + 1) by rw [← List.drop_eq_getElem_cons hi, List.take_append_drop])
  rw [List.flatten_append, List.flatten_cons] at h2
  rw [h2]
  simp only [List.append_assoc]
theorem set_ok {fr fr2 c2 : Bool} {v x : V} {p : List StT} {ys zs : List AV} (hv : Vc fr v ys) (hx : Vc fr x zs) (hw : v.wf) (hxw : x.wf) (hp : p.length * 32 ≤ reach ∧ ∀ s ∈ p, s.wf) : Fn Try.prog 30 [.agg ys, .sl fr2 c2 eSt (StT.css p), .agg zs] (setAV v p x) := by
  obtain ⟨hp80, hpw⟩ := hp
  have hpl : p.length ≤ 4398046511104 := by unfold reach at hp80; omega
  subst hv hx
  refine AC.of_J Try.func30 rfl Try.ntmps30 rfl fun w0 A0 => ?_
  refine J.seq ?_
  refine J.region_lit ?_
  refine JL.box_agg (.tmp rfl) rfl fun b3 => ?_
  refine JL.box_agg (.tmp rfl) rfl fun b5 => ?_
  refine JL.alloc z26 rfl rfl fun b6 => ?_
  refine JL.q rfl rfl rfl (QW.assign .const) ?_
  refine JL.nil ?_
  refine thenQ.n ?_
  refine J.seq ?_
  refine J.seq ?_
  refine J.region_lit ?_
  refine JL.q rfl rfl rfl (by first | exact QW.load_box 2 ty26 (.tmp rfl) rfl rfl rfl | exact QW.load_box 2 ty26 (.tmp rfl) rfl (take_at (V.cs_length _ _) rfl) (V.cs_length _ _)) ?_
  refine JL.q rfl rfl rfl (by first | exact QW.load_box 1 ty26 (.tmp rfl) rfl rfl rfl | exact QW.load_box 1 ty26 (.tmp rfl) rfl (take_at (V.cs_length _ _) rfl) (V.cs_length _ _)) ?_
  refine JL.q rfl rfl rfl (QW.buildA (idx := [0, 1]) (sz := 5) (by kernel_rfl) z133 rfl (.cons (.tmp rfl) (.cons (.tmp rfl) .nil)) rfl rfl rfl (fill_two (z0 := nilC) (z1 := nilC) rfl rfl (by exact V.cs_length _ _) (by exact V.cs_length _ _))) ?_
  refine JL.q rfl rfl rfl (QW.move .const) ?_
  refine JL.nil ?_
  refine thenQ.n ?_
  refine J.block ?_
  refine J.loopK (ι := Nat) [1, 3, 5, 6, 20] (fun j => [(21, .c (.int .i64 (j : Int)))]) (fun _ oo => oo) (fun j => j ≤ 2 ∧ (0 < j → v.err = 0) ∧ (1 < j → x.err = 0)) (fun j => 2 - j) 0 (⟨by decide, fun h => absurd h (by decide), fun h => absurd h (by decide)⟩) (Wk.re (.cons rfl (.refl _) (.cons rfl (.refl _) (.cons rfl (.refl _) (.cons rfl (.refl _) (.cons rfl (.refl _) (.cons rfl (.refl _) .nil)))))) (Reown.refl _) (fun _ h => by first | exact h | simp [h])) ?_
  intro j ⟨hj2, he1, he2⟩
  refine J.conv (by (try simp only [id_eq, stepsO, List.map_cons, List.map_nil, valO, nthO, curO, mrg, List.reverse_cons, List.reverse_nil, List.nil_append, List.cons_append, List.append_nil, List.getElem?_cons_zero, List.getElem?_cons_succ, Option.map_some, Option.getD_some, List.set_cons_zero, List.set_cons_succ, AV.cellsOf, splice_zero, splice_succ, Nat.zero_add, Nat.reduceAdd]); rfl) ?_
  refine J.seq ?_
  refine J.region_lit ?_
  refine JL.q rfl rfl rfl (QW.lss (.tmp rfl) .const) ?_
  refine JL.nil ?_
  refine thenQ.n ?_
  refine J.seq ?_
  refine J.cond (.tmp rfl) (fun c1 => ?_) (fun c1 => ?_)
  · skip
    have hj1 : j < 2 := by (simp at c1; omega)
    have hwj : (if j = 0 then v else x).wf := by split <;> assumption
    refine J.skip ?_
    refine thenQ.n ?_
    refine J.seq ?_
    refine J.block ?_
    refine J.seq ?_
    refine J.region_lit ?_
    refine JL.q rfl rfl rfl (QW.indexA (zs := (if j = 0 then v else x).cs fr) (ln := 2) (et := 26) (by kernel_rfl) ty26 (.tmp rfl) (.tmp rfl) rfl (by omega) (pair_at hj1) (V.cs_length _ _)) ?_
    refine JL.alloc z26 rfl rfl fun b9 => ?_
    first | refine JL.store_boxF 0 ty26 (.tmp rfl) rfl (.tmp rfl) (by first | rfl | assumption) (rfl) (rfl) rfl ?_ | refine JL.store_boxF 0 ty26 (.tmp rfl) rfl (.tmp rfl) (by first | rfl | assumption) (rfl) (V.cs_length _ _) rfl ?_ | refine JL.store_boxF 0 ty26 (.tmp rfl) rfl (.tmp rfl) (by first | rfl | assumption) (V.cs_length _ _) (rfl) rfl ?_ | refine JL.store_boxF 0 ty26 (.tmp rfl) rfl (.tmp rfl) (by first | rfl | assumption) (V.cs_length _ _) (V.cs_length _ _) rfl ?_ | refine JL.store_box 0 ty26 (.tmp rfl) rfl (.tmp rfl) (by first | rfl | assumption) rfl rfl rfl rfl ?_ | refine JL.store_box 0 ty26 (.tmp rfl) rfl (.tmp rfl) (by first | rfl | assumption) (V.cs_length _ _) rfl rfl rfl ?_
    refine JL.nil ?_
    refine thenQ.n ?_
    refine J.seq ?_
    refine J.region_lit ?_
    refine JL.q rfl rfl rfl (by first | exact QW.load_box 0 ty26 (.tmp rfl) rfl rfl rfl | exact QW.load_box 0 ty26 (.tmp rfl) rfl (take_at (V.cs_length _ _) rfl) (V.cs_length _ _)) ?_
    refine JL.q rfl rfl rfl (QW.call gofn24 (.cons (.tmp rfl) .nil) (check_ok Vc.self hwj)) ?_
    refine JL.q rfl rfl rfl (QW.assign (.tmp rfl)) ?_
    refine JL.nil ?_
    refine thenQ.n ?_
    refine J.seq ?_
    refine J.region_lit ?_
    refine JL.q rfl rfl rfl (QW.move (.tmp rfl)) ?_
    refine JL.q rfl rfl rfl (QW.neq (.tmp rfl) .const) ?_
    refine JL.nil ?_
    refine thenQ.n ?_
    refine J.cond (.tmp rfl) (fun c2 => ?_) (fun c2 => ?_)
    · skip
      simp at c2
      have hbad : v.setv p x = (.nil, (if j = 0 then v else x).err) := by
        by_cases h0 : j = 0
        · rw [if_pos h0] at c2 ⊢
          rw [V.setv, if_pos c2]
        · rw [if_neg h0] at c2 ⊢
          rw [V.setv, if_neg (by simp [he1 (by omega)]), if_pos c2]
      refine J.seq ?_
      refine J.region_lit ?_
      refine JL.q rfl rfl rfl (QW.build (idx := []) pl26 z26 rfl .nil rfl rfl rfl rfl) ?_
      refine JL.q rfl rfl rfl (QW.move (.tmp rfl)) ?_
      first | refine JL.store_boxF 1 ty26 (.tmp rfl) rfl (.tmp rfl) (by first | rfl | assumption) (rfl) (rfl) rfl ?_ | refine JL.store_boxF 1 ty26 (.tmp rfl) rfl (.tmp rfl) (by first | rfl | assumption) (rfl) (V.cs_length _ _) rfl ?_ | refine JL.store_boxF 1 ty26 (.tmp rfl) rfl (.tmp rfl) (by first | rfl | assumption) (V.cs_length _ _) (rfl) rfl ?_ | refine JL.store_boxF 1 ty26 (.tmp rfl) rfl (.tmp rfl) (by first | rfl | assumption) (V.cs_length _ _) (V.cs_length _ _) rfl ?_ | refine JL.store_box 1 ty26 (.tmp rfl) rfl (.tmp rfl) (by first | rfl | assumption) rfl rfl rfl rfl ?_ | refine JL.store_box 1 ty26 (.tmp rfl) rfl (.tmp rfl) (by first | rfl | assumption) (V.cs_length _ _) rfl rfl rfl ?_
      refine JL.q rfl rfl rfl (QW.assign (.tmp rfl)) ?_
      refine JL.nil ?_
      refine thenQ.n ?_
      refine J.ret ?_
      refine blkQ.r ?_
      refine thenQ.r ?_
      refine thenQ.r ?_
      refine blkQ.r ?_
      refine thenQ.r ?_
      exact ⟨_, selP [.k, .k, .k, .k] _, _, RetEv.two rfl (by first | exact REv.cell 1 ty26 rfl rfl rfl rfl (.aggL (.cons (.refl _) (.cons (.refl _) (.cons (.refl _) (.cons (.nil true false _) (.cons (.nil true false _) .nil)))))) | exact REv.cell 1 ty26 rfl rfl (take_at (V.cs_length _ _) rfl) (V.cs_length _ _) (.aggL (.cons (.refl _) (.cons (.refl _) (.cons (.refl _) (.cons (.nil true false _) (.cons (.nil true false _) .nil))))))) (REv.tmp rfl (.refl _)), rfl, sel_perm [.k, .k, .k, .k] _, ⟨congrArg Res.ret (setAV_of hbad).symm, rfl⟩⟩
    · skip
      simp at c2
      have he1b : v.err = 0 := by
        by_cases h0 : j = 0
        · rw [if_pos h0] at c2; exact c2
        · exact he1 (by omega)
      have he2b : 1 < j + 1 → x.err = 0 := fun h => by
        rw [if_neg (by omega)] at c2; exact c2
      refine J.skip ?_
      refine blkQ.n ?_
      refine thenQ.n ?_
      refine J.region_lit ?_
      refine JL.q rfl rfl rfl (QW.add (.tmp rfl) .const (by first | exact w64n (by first | rfl | omega | (simp; done)) (by omega) | exact w64 (by omega) | rfl)) ?_
      refine JL.q rfl rfl rfl (QW.move (.tmp rfl)) ?_
      refine JL.nil ?_
      refine thenQ.n ?_
      exact ⟨j + 1, ⟨by omega, fun _ => he1b, he2b⟩, by omega, Wk.re (.cons rfl (.refl _) (.cons rfl (.refl _) (.cons rfl (.refl _) (.cons rfl (.refl _) (.cons rfl (.refl _) (.cons rfl (.refl _) .nil)))))) (Reown.dropN 1 _ rfl) (fun _ h => by first | exact h | simp [h])⟩
  · skip
    obtain rfl : j = 2 := by (simp at c1; omega)
    have hv0 := he1 (by decide)
    have hx0 := he2 (by decide)
    have hfv := V.fine_of hv0
    refine J.exit ?_
    refine thenQ.x ?_
    refine thenQ.x ?_
    refine blkQ.hit ?_
    refine thenQ.n ?_
    refine J.seq ?_
    refine J.region_lit ?_
    refine JL.q rfl rfl rfl (by first | exact QW.load_box 2 ty26 (.tmp rfl) rfl rfl rfl | exact QW.load_box 2 ty26 (.tmp rfl) rfl (take_at (V.cs_length _ _) rfl) (V.cs_length _ _)) ?_
    refine JL.callRF [] gofn77 rfl Lent.nil (fun _ => (.cons (.tmp rfl) .nil)) (clone_ok Vc.self hw) (.inl rfl) fun x32 o32 h32 => ?_
    obtain ⟨kv32, iv32, ok32, oi32, rfl, rfl, hV32⟩ := h32
    refine JL.alloc z26 rfl rfl fun b11 => ?_
    first | refine JL.store_boxF 0 ty26 (.tmp rfl) rfl (.tmp rfl) (by first | rfl | assumption) (rfl) (rfl) rfl ?_ | refine JL.store_boxF 0 ty26 (.tmp rfl) rfl (.tmp rfl) (by first | rfl | assumption) (rfl) (V.cs_length _ _) rfl ?_ | refine JL.store_boxF 0 ty26 (.tmp rfl) rfl (.tmp rfl) (by first | rfl | assumption) (V.cs_length _ _) (rfl) rfl ?_ | refine JL.store_boxF 0 ty26 (.tmp rfl) rfl (.tmp rfl) (by first | rfl | assumption) (V.cs_length _ _) (V.cs_length _ _) rfl ?_ | refine JL.store_box 0 ty26 (.tmp rfl) rfl (.tmp rfl) (by first | rfl | assumption) rfl rfl rfl rfl ?_ | refine JL.store_box 0 ty26 (.tmp rfl) rfl (.tmp rfl) (by first | rfl | assumption) (V.cs_length _ _) rfl rfl rfl ?_
    refine JL.nil ?_
    refine thenQ.n ?_
    refine J.seq ?_
    refine J.region_lit ?_
    refine JL.q rfl rfl rfl (QW.assign (.tmp rfl)) ?_
    refine JL.nil ?_
    refine thenQ.n ?_
    refine J.seq ?_
    refine J.seq ?_
    refine J.region_lit ?_
    refine JL.q rfl rfl rfl (QW.move (.tmp rfl)) ?_
    refine JL.q rfl rfl rfl (by first | exact QW.len_slE sl39 (.tmp rfl) (keysAV_length _) | exact QW.len_slE sl39 (.tmp rfl) (V.css_length _ _) | exact QW.len_slE sl39 (.tmp rfl) (StT.css_length _) | exact QW.len_sl sl39 (.tmp rfl) | exact QW.len_nil sl39 (.tmp rfl)) ?_
    refine JL.q rfl rfl rfl (QW.move .const) ?_
    refine JL.nil ?_
    refine thenQ.n ?_
    refine J.block ?_
    refine J.reown ((Reown.rot3 _ _ _ _ _).trans (Reown.nilGrpE _)) ?_
    refine J.loopK (ι := Nat × At) [1, 5, 6, 11, 33, 34] (fun ⟨j, z⟩ => [(35, .c (.int .i64 (j : Int))), (12, .c (.pointer (some ⟨z.b, z.off, none⟩)))]) (fun ⟨j, z⟩ oo => List.set (List.set (List.set (List.set oo 3 (.box z.b (holeC z z.u z.kv z.iv))) 4 (z.ok)) 5 (z.oi)) 6 (z.ctx)) (fun ⟨j, z⟩ => j ≤ p.length ∧ z.Ok b11 ∧ v.set p x = plugR z.plug (z.u.set (p.drop j) x)) (fun ⟨j, z⟩ => p.length - j) ⟨0, ⟨b11, 0, [], [], v, kv32, iv32, ok32, oi32, .grp [], id⟩⟩ (⟨Nat.zero_le _, ⟨rfl, hV32, Law.root b11, hfv, hw⟩, (plugR_id _ V.set_nil).symm⟩) (Wk.re (.cons rfl (.refl _) (.cons rfl (.refl _) (.cons rfl (.refl _) (.cons rfl (.refl _) (.cons rfl (.refl _) (.cons rfl (.refl _) (.cons rfl (.refl _) (.cons rfl (.refl _) .nil)))))))) (Reown.ofEq rfl) (fun _ h => by first | exact h | simp [h])) ?_
    intro ⟨j, z⟩ ⟨hj, hz, hset⟩
    refine J.conv (by (try simp only [id_eq, stepsO, List.map_cons, List.map_nil, valO, nthO, curO, mrg, List.reverse_cons, List.reverse_nil, List.nil_append, List.cons_append, List.append_nil, List.getElem?_cons_zero, List.getElem?_cons_succ, Option.map_some, Option.getD_some, List.set_cons_zero, List.set_cons_succ, AV.cellsOf, splice_zero, splice_succ, Nat.zero_add, Nat.reduceAdd]); rfl) ?_
    refine J.seq ?_
    refine J.region_lit ?_
    refine JL.q rfl rfl rfl (QW.lss (.tmp rfl) (.tmp rfl)) ?_
    refine JL.nil ?_
    refine thenQ.n ?_
    refine J.seq ?_
    refine J.cond (.tmp rfl) (fun c2 => ?_) (fun c2 => ?_)
    · skip
      have hlt : j < p.length := by simpa using c2
      have hsw := hpw _ (List.getElem_mem hlt)
      refine J.skip ?_
      refine thenQ.n ?_
      refine J.seq ?_
      refine J.block ?_
      refine J.seq ?_
      refine J.region_lit ?_
      refine JL.q rfl rfl rfl (QW.move (.tmp rfl)) ?_
      refine JL.q rfl rfl rfl (QW.index_sl sl39 ty48 rfl (.tmp rfl) (.tmp rfl) (by first | rfl | omega | (simp; done)) (by exact StT.css_getE hlt)) ?_
      refine JL.q rfl rfl rfl (by first | exact QW.load_ref ty48 (.tmp rfl) rfl rfl | exact QW.load_ref ty48 (.tmp rfl) (take_at0 (rfl) rfl) (rfl)) ?_
      refine JL.alloc z48 rfl rfl fun b14 => ?_
      refine JL.q rfl rfl rfl (QW.assign (.tmp rfl)) ?_
      first | refine JL.store_boxF 0 ty48 (.tmp rfl) rfl (.tmp rfl) (by first | rfl | assumption) (rfl) (rfl) rfl ?_ | refine JL.store_boxF 0 ty48 (.tmp rfl) rfl (.tmp rfl) (by first | rfl | assumption) (rfl) (rfl) rfl ?_ | refine JL.store_boxF 0 ty48 (.tmp rfl) rfl (.tmp rfl) (by first | rfl | assumption) (rfl) (rfl) rfl ?_ | refine JL.store_boxF 0 ty48 (.tmp rfl) rfl (.tmp rfl) (by first | rfl | assumption) (rfl) (rfl) rfl ?_ | refine JL.store_box 0 ty48 (.tmp rfl) rfl (.tmp rfl) (by first | rfl | assumption) rfl rfl rfl rfl ?_ | refine JL.store_box 0 ty48 (.tmp rfl) rfl (.tmp rfl) (by first | rfl | assumption) (rfl) rfl rfl rfl ?_
      refine JL.nil ?_
      refine thenQ.n ?_
      refine J.seq ?_
      refine J.region_tailK 9 mixed (by kernel_rfl) (by kernel_rfl) (by kernel_rfl) rfl ?_
      refine .cons [] rfl rfl rfl (.q rfl (QW.move (.tmp rfl))) ?_
      refine .cons [41] rfl rfl rfl (.q rfl (QW.nil_ptr (.tmp rfl))) ?_
      refine .cons [42] rfl rfl rfl (.q rfl (QW.load_box 4 ty26 (.tmp rfl) rfl (hole_load hz.off) rfl)) ?_
      refine .cons [] rfl rfl rfl (.q rfl (by first | exact QW.load_box 0 ty48 (.tmp rfl) rfl rfl rfl | exact QW.load_box 0 ty48 (.tmp rfl) rfl (take_at (rfl) rfl) (rfl))) ?_
      refine .cons [43, 44] rfl rfl rfl (.q rfl (QW.callLF [.k, .k, .k, .k, .k, .l, .l] gofn76 (Lent.cons (hz.tr.lentK) (Lent.cons (hz.tr.lentI) Lent.nil)) rfl rfl (fun _ => (.cons (Ev.le (.tmp rfl) (V.raw_le (by simp) (by simp))) (.cons (.tmp rfl) .nil))) (find_ok (fr := false) (v := z.u) (s := p[j]'hlt) Vc.self Sc.self hz.fine.part (hpw _ (List.getElem_mem hlt))) (fndAV_fresh _ _))) ?_
      refine .cons [45] rfl rfl rfl (.q rfl (QW.move (.tmp rfl))) ?_
      refine .cons [40] rfl rfl rfl (.q rfl (QW.extract (.tmp rfl) rfl)) ?_
      refine .cons [40] rfl rfl rfl (.q rfl (QW.extract (.tmp rfl) rfl)) ?_
      refine .cons [46] rfl rfl rfl (.q rfl (QW.assign (.tmp rfl))) ?_
      refine .nil ?_
      refine JL.q rfl rfl rfl (QW.assign (.tmp rfl)) ?_
      refine JL.nil ?_
      refine thenQ.n ?_
      refine J.cutK (ι := V × Nat × Int × Value × Value × Own × Own) [1, 5, 6, 11, 12, 13, 14, 33, 34, 35, 36, 37, 38, 39, 40, 41, 42, 43, 44, 45, 46, 47] (fun ⟨u2, i2, e2, kv2, iv2, ok2, oi2⟩ => [(15, .c (.int .i64 (i2 : Int))), (16, .c (.int .i64 e2))]) (fun ⟨u2, i2, e2, kv2, iv2, ok2, oi2⟩ oo => List.set (List.set (List.set oo 4 (.box z.b (holeC z u2 kv2 iv2))) 5 (ok2)) 6 (oi2)) (fun ⟨u2, i2, e2, kv2, iv2, ok2, oi2⟩ => z.u.stp (p[j]'hlt) (decide (p.drop (j + 1) = [])) = (u2, i2, e2) ∧ VTr u2 kv2 iv2 ok2 oi2) ?_ ?_
      · skip
        refine J.seq ?_
        refine J.region_lit ?_
        refine JL.q rfl rfl rfl (QW.move (.tmp rfl)) ?_
        refine JL.q rfl rfl rfl (QW.neq (.tmp rfl) .const) ?_
        refine JL.q rfl rfl rfl (QW.move (.tmp rfl)) ?_
        refine JL.g rfl rfl rfl rfl rfl (fun hg => (QW.move (.tmp rfl))) ?_
        refine JL.g rfl rfl rfl rfl rfl (fun hg => (QW.move (.tmp rfl))) ?_
        refine JL.g rfl rfl rfl rfl rfl (fun hg => (by first | exact QW.len_slE sl39 (.when rfl hg) (keysAV_length _) | exact QW.len_slE sl39 (.when rfl hg) (V.css_length _ _) | exact QW.len_slE sl39 (.when rfl hg) (StT.css_length _) | exact QW.len_sl sl39 (.when rfl hg) | exact QW.len_nil sl39 (.when rfl hg))) ?_
        refine JL.g rfl rfl rfl rfl rfl (fun hg => (QW.sub (.when rfl hg) .const (by first | exact w64n (by first | rfl | omega | (simp; done)) (by omega) | exact w64 (by omega) | rfl))) ?_
        refine JL.g rfl rfl rfl rfl rfl (fun hg => (QW.eql (.when rfl hg) (.when rfl hg))) ?_
        refine JL.q rfl rfl rfl (QW.pick_and (.tmp rfl) (.tmp rfl)) ?_
        refine JL.nil ?_
        refine thenQ.n ?_
        refine J.cond (.tmp rfl) (fun c3 => ?_) (fun c3 => ?_)
        · skip
          have he0 : (z.u.fnd (p[j]'hlt)).2 ≠ 0 := by (simp at c3; exact c3.1)
          have hlast : p.drop (j + 1) = [] := by (simp at c3; exact List.drop_of_length_le (by omega))
          refine J.region_lit ?_
          refine JL.q rfl rfl rfl (QW.move (.tmp rfl)) ?_
          refine JL.q rfl rfl rfl (by first | exact QW.load_box 0 ty48 (.tmp rfl) rfl rfl rfl | exact QW.load_box 0 ty48 (.tmp rfl) rfl (take_at (rfl) rfl) (rfl)) ?_
          refine JL.q rfl rfl rfl (QW.move (.tmp rfl)) ?_
          refine JL.q rfl rfl rfl (QW.move (.tmp rfl)) ?_
          refine JL.callRF [.k, .k, .k, .k, .p, .p, .p] gofn80 rfl Lent.nil (fun _ => (.cons (.tmp rfl) (.cons (.tmp rfl) (.cons (.tmp rfl) (.cons (.tmp rfl) .nil))))) (grow_ok (z := z) (s := p[j]'hlt) (i := (z.u.fnd (p[j]'hlt)).1) (e := (z.u.fnd (p[j]'hlt)).2) Sc.self hz.off hz.tr hz.fine.part hz.wf (hpw _ (List.getElem_mem hlt)) rfl he0) (.inl rfl) fun x62 o62 h62 => ?_
          obtain ⟨kv62, iv62, ok62, oi62, rfl, rfl, hV62⟩ := h62
          refine JL.q rfl rfl rfl (QW.move (.tmp rfl)) ?_
          refine JL.q rfl rfl rfl (QW.extract (.tmp rfl) rfl) ?_
          refine JL.q rfl rfl rfl (QW.extract (.tmp rfl) rfl) ?_
          refine JL.q rfl rfl rfl (QW.assign (.tmp rfl)) ?_
          refine JL.q rfl rfl rfl (QW.assign (.tmp rfl)) ?_
          refine JL.nil ?_
          refine thenQ.n ?_
          exact ⟨⟨_, _, _, kv62, iv62, ok62, oi62⟩, ⟨by rw [hlast]; rfl, hV62⟩, Wk.re (.cons rfl (.refl _) (.cons rfl (.refl _) (.cons rfl (.refl _) (.cons rfl (.refl _) (.cons rfl (.refl _) (.cons rfl (.refl _) (.cons rfl (.refl _) (.cons rfl (.refl _) (.cons rfl (.refl _) (.cons rfl (.refl _) (.cons rfl (.refl _) (.cons rfl (.refl _) (.cons rfl (.refl _) (.cons rfl (.refl _) (.cons rfl (.refl _) (.cons rfl (.refl _) (.cons rfl (.refl _) (.cons rfl (.refl _) (.cons rfl (.refl _) (.cons rfl (.refl _) (.cons rfl (.refl _) (.cons rfl (.refl _) (.cons rfl (.refl _) (.cons rfl (.refl _) .nil)))))))))))))))))))))))) (Reown.refl _) (fun _ h => by first | exact h | simp [h])⟩
        · skip
          have hno : (z.u.fnd (p[j]'hlt)).2 = 0 ∨ p.drop (j + 1) ≠ [] := by
            simp at c3
            by_cases h0 : (z.u.fnd (p[j]'hlt)).2 = 0
            · exact .inl h0
            · refine .inr fun hd => ?_
              have := c3 h0
              rw [List.drop_eq_nil_iff] at hd
              omega
          refine J.skip ?_
          refine thenQ.n ?_
          exact ⟨⟨z.u, (z.u.fnd (p[j]'hlt)).1, (z.u.fnd (p[j]'hlt)).2, z.kv, z.iv, z.ok, z.oi⟩, ⟨by unfold V.stp; by_cases h0 : (z.u.fnd (p[j]'hlt)).2 = 0; (rw [if_pos h0, h0]); (rw [if_neg h0, if_neg (by simpa using hno.resolve_left h0)]), hz.tr⟩, Wk.re (.cons rfl (.refl _) (.cons rfl (.refl _) (.cons rfl (.refl _) (.cons rfl (.refl _) (.cons rfl (.refl _) (.cons rfl (.refl _) (.cons rfl (.refl _) (.cons rfl (.refl _) (.cons rfl (.refl _) (.cons rfl (.refl _) (.cons rfl (.refl _) (.cons rfl (.refl _) (.cons rfl (.refl _) (.cons rfl (.refl _) (.cons rfl (.refl _) (.cons rfl (.refl _) (.cons rfl (.refl _) (.cons rfl (.refl _) (.cons rfl (.refl _) (.cons rfl (.refl _) (.cons rfl (.refl _) (.cons rfl (.refl _) (.cons rfl (.refl _) (.cons rfl (.refl _) .nil)))))))))))))))))))))))) (Reown.refl _) (fun _ h => by first | exact h | simp [h])⟩
      · intro ⟨u2, i2, e2, kv2, iv2, ok2, oi2⟩ ⟨hst, hV2⟩
        refine J.conv (by (try simp only [id_eq, stepsO, List.map_cons, List.map_nil, valO, nthO, curO, mrg, List.reverse_cons, List.reverse_nil, List.nil_append, List.cons_append, List.append_nil, List.getElem?_cons_zero, List.getElem?_cons_succ, Option.map_some, Option.getD_some, List.set_cons_zero, List.set_cons_succ, AV.cellsOf, splice_zero, splice_succ, Nat.zero_add, Nat.reduceAdd]); rfl) ?_
        refine J.seq ?_
        refine J.seq ?_
        refine J.region_lit ?_
        refine JL.q rfl rfl rfl (QW.move (.tmp rfl)) ?_
        refine JL.q rfl rfl rfl (QW.neq (.tmp rfl) .const) ?_
        refine JL.nil ?_
        refine thenQ.n ?_
        refine J.cond (.tmp rfl) (fun c3 => ?_) (fun c3 => ?_)
        · skip
          have he2 : e2 ≠ 0 := by simpa using c3
          refine J.seq ?_
          refine J.region_lit ?_
          refine JL.q rfl rfl rfl (QW.build (idx := []) pl26 z26 rfl .nil rfl rfl rfl rfl) ?_
          refine JL.q rfl rfl rfl (QW.move (.tmp rfl)) ?_
          first | refine JL.store_boxF 1 ty26 (.tmp rfl) rfl (.tmp rfl) (by first | rfl | assumption) (rfl) (rfl) rfl ?_ | refine JL.store_boxF 1 ty26 (.tmp rfl) rfl (.tmp rfl) (by first | rfl | assumption) (rfl) (V.cs_length _ _) rfl ?_ | refine JL.store_boxF 1 ty26 (.tmp rfl) rfl (.tmp rfl) (by first | rfl | assumption) (V.cs_length _ _) (rfl) rfl ?_ | refine JL.store_boxF 1 ty26 (.tmp rfl) rfl (.tmp rfl) (by first | rfl | assumption) (V.cs_length _ _) (V.cs_length _ _) rfl ?_ | refine JL.store_box 1 ty26 (.tmp rfl) rfl (.tmp rfl) (by first | rfl | assumption) rfl rfl rfl rfl ?_ | refine JL.store_box 1 ty26 (.tmp rfl) rfl (.tmp rfl) (by first | rfl | assumption) (V.cs_length _ _) rfl rfl rfl ?_
          refine JL.q rfl rfl rfl (QW.assign (.tmp rfl)) ?_
          refine JL.nil ?_
          refine thenQ.n ?_
          refine J.ret ?_
          refine thenQ.r ?_
          refine blkQ.r ?_
          refine thenQ.r ?_
          refine thenQ.r ?_
          refine blkQ.r ?_
          refine thenQ.r ?_
          exact ⟨_, selP [.k, .k, .k, .k, .k, .k, .k, .k] _, _, RetEv.two rfl (by first | exact REv.cell 1 ty26 rfl rfl rfl rfl (.aggL (.cons (.refl _) (.cons (.refl _) (.cons (.refl _) (.cons (.nil true false _) (.cons (.nil true false _) .nil)))))) | exact REv.cell 1 ty26 rfl rfl (take_at (V.cs_length _ _) rfl) (V.cs_length _ _) (.aggL (.cons (.refl _) (.cons (.refl _) (.cons (.refl _) (.cons (.nil true false _) (.cons (.nil true false _) .nil))))))) (REv.tmp rfl (.refl _)), rfl, sel_perm [.k, .k, .k, .k, .k, .k, .k, .k] _, ⟨congrArg Res.ret (setAV_of (setv_err hv0 hx0 (e := e2) (w := .nil) (by rw [hset, drop_at hlt, V.stp_no hst he2]; simp [plugR, he2]) he2)).symm, rfl⟩⟩
        · skip
          obtain rfl : e2 = 0 := by simpa using c3
          obtain ⟨hlt2, huw2, hfk, hset3⟩ := V.stp_yes (x := x) hz.fine hz.wf hsw hst
          refine J.skip ?_
          refine thenQ.n ?_
          obtain ⟨ci, ui, o2, q1, q2, q3, q4, q5, q6⟩ := hV2.is.inv
          rw [V.css_length] at q2
          refine J.reown (Reown.split2 (i := 6) rfl q6) ?_
          refine J.lay 6 rfl (fun a0 hv hx => absurd hlt2 (by rw [← q2, hx]; simp)) fun b2 cap sp hiv hcap hsz5 hfl => ?_
          subst hiv
          refine J.region_lit ?_
          refine JL.q rfl rfl rfl (QW.move (.tmp rfl)) ?_
          refine JL.q rfl rfl rfl (QW.nil_ptr (.tmp rfl)) ?_
          refine JL.q rfl rfl rfl (QW.field_ptr fo26_4 (.tmp rfl) rfl) ?_
          refine JL.q rfl rfl rfl (QW.load_box1 4 ty24 (.tmp rfl) rfl ((hole_at hz.off 4 (by decide)).trans rfl)) ?_
          refine JL.q rfl rfl rfl (QW.move (.tmp rfl)) ?_
          refine JL.q rfl rfl rfl (QW.index_c (m := i2) sl24 ty26 (.tmp rfl) (.tmp rfl) rfl (by omega)) ?_
          refine JL.q rfl rfl rfl (QW.assign (.tmp rfl)) ?_
          refine JL.nil ?_
          refine blkQ.n ?_
          refine thenQ.n ?_
          obtain ⟨kv3, iv3, ok3, oi3, ob, oa, u1, u3, e1, e3, e4, e5, e6, e7, e8, e9, e10⟩ := kids_at hlt2 q2 q3 q1 q4 q5
          refine J.reown (Reown.cons (Reown.cons (Reown.cons (Reown.cons (Reown.step e10))))) ?_
          refine J.region_lit ?_
          refine JL.q rfl rfl rfl (QW.add (.tmp rfl) .const (by first | exact w64n (by first | rfl | omega | (simp; done)) (by omega) | exact w64 (by omega) | rfl)) ?_
          refine JL.q rfl rfl rfl (QW.move (.tmp rfl)) ?_
          refine JL.nil ?_
          refine thenQ.n ?_
          exact ⟨⟨j + 1, ⟨b2, 0 + i2 * 5, (ci.take i2).flatten, (ci.drop (i2 + 1)).flatten ++ sp.map AV.c, u2.items[i2], kv3, iv3, ok3, oi3, .grp [.box z.b (holeC z u2 kv2 (sv b2 0 ci.length (cap + 1))), ok2, ob, oa, z.ctx], fun w => z.plug (u2.setAt i2 w)⟩⟩, ⟨hlt, ⟨by rw [flatten_length (sz := 5) _ (fun x hx => q3 x (List.mem_of_mem_take hx)), List.length_take, Nat.min_eq_left (by omega)]; exact (Nat.zero_add _).symm, e3, hz.law.into huw2 hV2.k1 hV2.i1 hV2.ks hlt2 q2 q3 rfl hcap hfl e4 e5 e6 e7 e8 e9, hfk, huw2.kid (List.getElem_mem hlt2)⟩, by rw [hset, drop_at hlt, hset3, plugR_if]⟩, by show p.length - (j + 1) < p.length - j; omega, Wk.re (.cons rfl (.refl _) (.cons rfl (.refl _) (.cons rfl (.refl _) (.cons rfl (.refl _) (.cons rfl (.refl _) (.cons rfl (.refl _) (.cons rfl (.refl _) (.cons rfl (.refl _) .nil)))))))) ((Reown.dropN 1 _ rfl).trans (Reown.ofEq (by show [_, _, _, Own.box b2 _, _, _, _] = [_, _, _, Own.box b2 _, _, _, _]; rw [cells_at e1]; rfl))) (fun _ h => by first | exact h | simp [h])⟩
    · skip
      have hge : p.length ≤ j := by simpa using c2
      rw [List.drop_of_length_le hge] at hset
      have hset2 : v.set p x = (z.plug x, 0) := hset
      have hww : (z.plug x).wf := by have := V.set_wf hw hfv hpw hxw; rwa [hset2] at this
      refine J.exit ?_
      refine thenQ.x ?_
      refine thenQ.x ?_
      refine blkQ.hit ?_
      refine thenQ.n ?_
      refine J.seq ?_
      refine J.region_lit ?_
      refine JL.q rfl rfl rfl (QW.move (.tmp rfl)) ?_
      refine JL.q rfl rfl rfl (by first | exact QW.load_box 1 ty26 (.tmp rfl) rfl rfl rfl | exact QW.load_box 1 ty26 (.tmp rfl) rfl (take_at (V.cs_length _ _) rfl) (V.cs_length _ _)) ?_
      refine JL.callRF [] gofn77 rfl Lent.nil (fun _ => (.cons (.tmp rfl) .nil)) (clone_ok Vc.self hxw) (.inl rfl) fun x78 o78 h78 => ?_
      obtain ⟨kv78, iv78, ok78, oi78, rfl, rfl, hV78⟩ := h78
      refine JL.q rfl rfl rfl (QW.nil_ptr (.tmp rfl)) ?_
      refine JL.store_box 3 ty26 (.tmp rfl) rfl (.tmp rfl) rfl rfl (by rw [hole_len _ _ _ _ hz.off]; exact Nat.ble_eq_true_of_le (by omega)) (hole_put hz.off) rfl ?_
      refine JL.nil ?_
      refine thenQ.n ?_
      refine J.seq ?_
      refine J.seq ?_
      obtain ⟨kw, iw, okw, oiw, hW, hR⟩ := hz.law x kv78 iv78 ok78 oi78 hxw hV78
      refine J.reown (Reown.cons (Reown.cons (Reown.cons (Reown.fin hR)))) ?_
      refine J.region_lit ?_
      refine JL.q rfl rfl rfl (by first | exact QW.load_box 3 ty26 (.tmp rfl) rfl rfl rfl | exact QW.load_box 3 ty26 (.tmp rfl) rfl (take_at (V.cs_length _ _) rfl) (V.cs_length _ _)) ?_
      refine JL.q rfl rfl rfl (QW.callLF [.k, .k, .k, .k, .l, .l] gofn24 (Lent.cons (hW.lentK) (Lent.cons (hW.lentI) Lent.nil)) rfl rfl (fun _ => (.cons (Ev.le (.tmp rfl) (V.raw_le (by simp) (by simp))) .nil)) (check_ok (fr := false) (v := z.plug x) Vc.self hww) (Fl.c _)) ?_
      refine JL.q rfl rfl rfl (QW.assign (.tmp rfl)) ?_
      refine JL.nil ?_
      refine thenQ.n ?_
      refine J.seq ?_
      refine J.region_lit ?_
      refine JL.q rfl rfl rfl (QW.move (.tmp rfl)) ?_
      refine JL.q rfl rfl rfl (QW.neq (.tmp rfl) .const) ?_
      refine JL.nil ?_
      refine thenQ.n ?_
      refine J.cond (.tmp rfl) (fun c3 => ?_) (fun c3 => ?_)
      · skip
        have hbd : (z.plug x).err ≠ 0 := by simpa using c3
        refine J.seq ?_
        refine J.region_lit ?_
        refine JL.q rfl rfl rfl (QW.build (idx := []) pl26 z26 rfl .nil rfl rfl rfl rfl) ?_
        refine JL.q rfl rfl rfl (QW.move (.tmp rfl)) ?_
        first | refine JL.store_boxF 0 ty26 (.tmp rfl) rfl (.tmp rfl) (by first | rfl | assumption) (rfl) (rfl) rfl ?_ | refine JL.store_boxF 0 ty26 (.tmp rfl) rfl (.tmp rfl) (by first | rfl | assumption) (rfl) (V.cs_length _ _) rfl ?_ | refine JL.store_boxF 0 ty26 (.tmp rfl) rfl (.tmp rfl) (by first | rfl | assumption) (V.cs_length _ _) (rfl) rfl ?_ | refine JL.store_boxF 0 ty26 (.tmp rfl) rfl (.tmp rfl) (by first | rfl | assumption) (V.cs_length _ _) (V.cs_length _ _) rfl ?_ | refine JL.store_box 0 ty26 (.tmp rfl) rfl (.tmp rfl) (by first | rfl | assumption) rfl rfl rfl rfl ?_ | refine JL.store_box 0 ty26 (.tmp rfl) rfl (.tmp rfl) (by first | rfl | assumption) (V.cs_length _ _) rfl rfl rfl ?_
        refine JL.q rfl rfl rfl (QW.assign (.tmp rfl)) ?_
        refine JL.nil ?_
        refine thenQ.n ?_
        refine J.ret ?_
        refine thenQ.r ?_
        exact ⟨_, selP [.k, .k, .k, .k, .k, .k] _, _, RetEv.two rfl (by first | exact REv.cell 0 ty26 rfl rfl rfl rfl (.aggL (.cons (.refl _) (.cons (.refl _) (.cons (.refl _) (.cons (.nil true false _) (.cons (.nil true false _) .nil)))))) | exact REv.cell 0 ty26 rfl rfl (take_at (V.cs_length _ _) rfl) (V.cs_length _ _) (.aggL (.cons (.refl _) (.cons (.refl _) (.cons (.refl _) (.cons (.nil true false _) (.cons (.nil true false _) .nil))))))) (REv.tmp rfl (.refl _)), rfl, sel_perm [.k, .k, .k, .k, .k, .k] _, ⟨congrArg Res.ret (setAV_of (setv_bad hv0 hx0 hset2 hbd)).symm, rfl⟩⟩
      · skip
        have hgd : (z.plug x).err = 0 := by simpa using c3
        refine J.skip ?_
        refine thenQ.n ?_
        refine J.seq ?_
        refine J.close 4 rfl hW.ks.clos rfl (fun _ h => by cases h) ?_
        refine J.close 4 rfl hW.is.clos rfl (fun _ h => by cases h) ?_
        refine J.region_lit ?_
        refine JL.q rfl rfl rfl (by first | exact QW.load_box 3 ty26 (.tmp rfl) rfl rfl rfl | exact QW.load_box 3 ty26 (.tmp rfl) rfl (take_at (V.cs_length _ _) rfl) (V.cs_length _ _)) ?_
        first | refine JL.store_boxF 0 ty26 (.tmp rfl) rfl (.tmp rfl) (by first | rfl | assumption) (rfl) (rfl) rfl ?_ | refine JL.store_boxF 0 ty26 (.tmp rfl) rfl (.tmp rfl) (by first | rfl | assumption) (rfl) (V.cs_length _ _) rfl ?_ | refine JL.store_boxF 0 ty26 (.tmp rfl) rfl (.tmp rfl) (by first | rfl | assumption) (V.cs_length _ _) (rfl) rfl ?_ | refine JL.store_boxF 0 ty26 (.tmp rfl) rfl (.tmp rfl) (by first | rfl | assumption) (V.cs_length _ _) (V.cs_length _ _) rfl ?_ | refine JL.store_box 0 ty26 (.tmp rfl) rfl (.tmp rfl) (by first | rfl | assumption) rfl rfl rfl rfl ?_ | refine JL.store_box 0 ty26 (.tmp rfl) rfl (.tmp rfl) (by first | rfl | assumption) (V.cs_length _ _) rfl rfl rfl ?_
        refine JL.q rfl rfl rfl (QW.assign .const) ?_
        refine JL.nil ?_
        refine thenQ.n ?_
        refine J.ret ?_
        exact ⟨_, selP [.k, .k, .k, .k] _, _, RetEv.two rfl (by first | exact REv.cell 0 ty26 rfl rfl rfl rfl (V.raw_le (by simp) (by simp)) | exact REv.cell 0 ty26 rfl rfl (take_at (V.cs_length _ _) rfl) (V.cs_length _ _) (V.raw_le (by simp) (by simp))) (REv.tmp rfl (.refl _)), rfl, sel_perm [.k, .k, .k, .k] _, ⟨congrArg Res.ret (setAV_of (setv_ok hv0 hx0 hset2 hgd)).symm, rfl⟩⟩
end Go.Proofs.Ytkiankpmkglhcaa.J

/- Walks: the page sets a part of a value. -/
namespace Go.Proofs.Ytkiankpmkglhcaa.J
open Go Go.RowKit
set_option linter.unusedVariables false
set_option linter.unusedSimpArgs false
set_option maxRecDepth 10000
set_option maxHeartbeats 4000000
def SetR (w : V × Int) : AV → List Own → Prop := fun x o => ∃ kw iw okw oiw, x = .tup [.agg (w.1.raw kw iw), .c (.int .i64 w.2)] ∧ o = [okw, oiw] ∧ VTr w.1 kw iw okw oiw
theorem SetR.no {w : V × Int} {e : Int} (h : w = (.nil, e)) : SetR w (.tup [.agg nilC, .c (.int .i64 e)]) [.grp [], .grp []] := ⟨_, _, _, _, by rw [h]; rfl, rfl, by rw [h]; exact nil_VTr⟩
theorem SetR.yes {w : V × Int} {u : V} {kw iw : Value} {okw oiw : Own} {ys : List AV} {e : Int} (h : w = (u, e)) (hy : ys = u.raw kw iw) (hV : VTr u kw iw okw oiw) : SetR w (.tup [.agg ys, .c (.int .i64 e)]) [okw, oiw] := ⟨kw, iw, okw, oiw, by rw [h, hy], rfl, by rw [h]; exact hV⟩
theorem Reown.hd2 {a b : Own} {c l : List Own} (h : Reown [a, b] c) : Reown (a :: b :: l) (c ++ l) :=
  (Reown.perm (List.perm_append_comm (l₁ := [a, b]) (l₂ := l))).trans ((Reown.left (c := l) h).trans (Reown.perm List.perm_append_comm))
theorem Reown.put (arrI ok3 oi3 ob oa okx oix : Own) : Reown [arrI, ok3, oi3, ob, oa, okx, oix] [.grp [arrI, .grp [ob, .grp [.grp [okx, oix], oa]]]] := by
  refine ⟨fun y => by simp only [fps_cons, fps_nil, fp_grp, List.count_append, List.count_nil]; omega, fun w A h => ?_⟩
  simp only [List.forall_mem_cons, ok_grp, List.not_mem_nil, false_implies, implies_true, and_true] at h ⊢
  obtain ⟨q1, q2, q3, q4, q5, q6, q7⟩ := h
  exact ⟨q1, q4, ⟨q6, q7⟩, q5⟩
theorem VTr.setAt {u x : V} {kv iv kx ix : Value} {ok ob oa okx oix : Own} {cs : List (List AV)} {u1 u3 : List Value} {i : Nat} (huw : u.wf) (hk1 : kv.oneCell' = true) (hi1 : iv.oneCell' = true) (hks : Tr (.sl true false eStr (keysAV u.keys)) kv ok)
    (hlt : i < u.items.length) (hcl : cs.length = u.items.length) (h5 : ∀ x ∈ cs, x.length = 5) (t1 : TrL (V.css true (u.items.take i)).flatten u1 ob) (t3 : TrL (V.css true (u.items.drop (i + 1))).flatten u3 oa) (f1 : (cs.take i).flatten = u1.map AV.c) (f3 : (cs.drop (i + 1)).flatten = u3.map AV.c)
    (a1 : u1.all (·.oneCell') = true) (a3 : u3.all (·.oneCell') = true) (hx : VTr x kx ix okx oix) : VTr (u.setAt i x) kv iv ok (.grp [.arr iv eV (cs.set i (x.raw kx ix)), .grp [ob, .grp [.grp [okx, oix], oa]]]) := by
  have hclt : i < cs.length := by omega
  have hflat : (cs.set i (x.raw kx ix)).flatten = (u1 ++ (x.vals kx ix ++ u3)).map AV.c := by
    rw [set_parts hclt, List.flatten_append, List.flatten_cons, f1, f3, V.raw_eq, List.map_append, List.map_append]
  have h5' : ∀ z ∈ cs.set i (x.raw kx ix), z.length = 5 := fun z hz => (List.mem_or_eq_of_mem_set hz).elim (h5 z) fun e => e ▸ rfl
  have hits : u.items.length * 80 ≤ reach := by obtain ⟨k, b, t, ks, is⟩ := u; exact huw.inv.2.2.2.2.1
  have htl : TrL (V.css true (u.items.set i x)).flatten (u1 ++ (x.vals kx ix ++ u3)) (.grp [ob, .grp [.grp [okx, oix], oa]]) := by
    rw [set_parts hlt, V.css_append, List.flatten_append, V.css, List.flatten_cons]
    exact t1.append (hx.trL.append t3 (.refl _)) (.refl _)
  have hIt : Tr (.sl true false eV (V.css true (u.items.set i x))) iv (.grp [.arr iv eV (cs.set i (x.raw kx ix)), .grp [ob, .grp [.grp [okx, oix], oa]]]) :=
    items_tr hflat (by simp [hcl]) h5' (by rw [List.all_append, List.all_append, a1, hx.ones, a3]; rfl) (by simpa using hits) htl
  exact ⟨hk1, hi1, hks, hIt⟩
end Go.Proofs.Ytkiankpmkglhcaa.J

/- Regions that draw their order, part by part: single operations that all later ones wait for, and groups of quiet ones. -/
namespace Go.Proofs.Ytkiankpmkglhcaa.J
open Go Go.RowKit
set_option linter.unusedVariables false
set_option linter.unusedSimpArgs false
/-- Each operation behind the k-th waits for one from the k-th on. -/
def botOk (k : Nat) (l : List Oper) : Bool := (List.range' (k + 1) (l.length - (k + 1))).all fun j => (List.range' k (j - k)).any fun i => hasDep l j i
/-- Each operation from k on, ahead of m, is one that a later one, up to m, waits for; and all behind m wait for one from m on. -/
def grpOk (k m : Nat) (l : List Oper) : Bool := Nat.beq m l.length || ((List.range' k (m - k)).all (fun j => (List.range' (j + 1) (m - j)).any fun i => hasDep l i j) && botOk m l)
structure Done (k : Nat) (ops : Array Oper) (L : Array Bool) : Prop where
  size : L.size = ops.size
  yes : ∀ i, i < k → L.getD i false = true
  no : ∀ i, k ≤ i → L.getD i false = false
/-- The rest of a region, of which the first k operations are done. -/
def JA (P : Program) (E : Ent) (ops : Array Oper) (k : Nat) (st : St) (Q : Exit → St → Prop) : Prop :=
  ∀ fuel L a w, Done k ops L → k ≤ ops.size → ops.size - k ≤ fuel → Sat E st a w → wpAnyIn (fen E.rd) 0 P .any ops (lift E Q) fuel L a w
section
variable {P : Program} {E : Ent} {Q : Exit → St → Prop} {n : Nat} {env : List (Nat × AV)} {own : List Own} {F : List (Value × AV)} {D : List Deferred} {ops : Array Oper} {st : St}
theorem Oper.wpIn_monoQ {Fn : Fence} {m : Nat} {o : Oper} {a : Act} {w : World} {K : Act → World → Prop} {Q Q' : Exit → Act → World → Prop} (hp : ∀ ch a w, Q (.panic ch) a w → Q' (.panic ch) a w) (hl : LetsOut Q → LetsOut Q')
    (hh : o.wpIn Fn m P a w K Q) : o.wpIn Fn m P a w K Q' := by
  unfold Oper.wpIn at *
  refine ⟨hh.1, ?_⟩
  have hh := hh.2
  generalize (o.semAt Fn.round a.eval).run P w = r at *
  cases r with
  | ok x w' =>
    cases x <;> simp only [Oper.uponIn] at hh ⊢ <;>
      first
        | exact hh
        | exact ⟨hh.1, CallsIn.mono hh.2 (fun e w'' he => by cases e <;> first | exact he | exact hp _ _ _ he | exact hl he)⟩
        | exact ⟨hh.1, RoundIn.mono hh.2 (fun e w'' he => by cases e <;> first | exact he | exact hp _ _ _ he | exact hl he)⟩
  | halt x w' => cases x <;> simp only [Oper.uponIn] at hh ⊢ <;> first | exact hh | exact hp _ _ _ hh
theorem JA.fin (k : Nat) (hk : k = ops.size) (h : Q .normal st) : JA P E ops k st Q := fun fuel L a w hD hle hf hs => by
  have hnil : Region.ready .any ops L = [] := by
    rw [List.eq_nil_iff_forall_not_mem]
    intro i hi
    obtain ⟨hlt, o, ho, hL, _⟩ := mem_ready hi
    rw [getD_same (by rw [hD.size]; exact hlt), hD.yes i (by omega)] at hL
    cases hL
  cases fuel with
  | zero => exact ⟨hnil, st, h, hs⟩
  | succ fuel => exact ⟨fun _ => ⟨st, h, hs⟩, fun i hi => by rw [hnil] at hi; cases hi⟩
theorem bot_dep {k j : Nat} (hb : botOk k ops.toList = true) (hk : k < j) (hj : j < ops.size) : ∃ o, ops[j]? = some o ∧ ∃ e ∈ o.after, Region.binds .any e = true ∧ k ≤ e.on ∧ e.on < j := by
  unfold botOk at hb
  have := List.all_eq_true.1 hb j (by simp [List.mem_range']; exact ⟨j - (k + 1), by omega, by omega⟩)
  obtain ⟨i, hi, hd⟩ := List.any_eq_true.1 this
  simp [List.mem_range'] at hi
  obtain ⟨z, hz, rfl⟩ := hi
  obtain ⟨o, ho, e, he, hbe, hon⟩ := hasDep_iff hd
  exact ⟨o, by simpa using ho, e, he, hbe, by omega, by omega⟩
theorem lift_q {K : St → Prop} {e : Exit} {a : Act} {w : World} (he : e ≠ .normal) (h : lift E (thenQ K Q) e a w) : lift E Q e a w := by
  obtain ⟨s, h1, h2⟩ := h
  refine ⟨s, ?_, h2⟩
  cases e <;> first | exact h1 | exact absurd rfl he
/-- The next operation, that all later ones wait for. -/
theorem JA.one {k : Nat} {o : Oper} (ho : ops[k]? = some o) (hbk : backB 0 ops.toList = true) (hb : botOk k ops.toList = true) (h : JL P E ops [o] st (thenQ (fun s => JA P E ops (k + 1) s Q) Q)) : JA P E ops k st Q := fun fuel L a w hD hle hf hs => by
  have hlt : k < ops.size := (Array.getElem?_eq_some_iff.1 ho).1
  obtain ⟨fuel, rfl⟩ : ∃ f, fuel = f + 1 := ⟨fuel - 1, by omega⟩
  have hmem : k ∈ Region.ready .any ops L := ready_mem hD.size ho (by rw [getD_same (by rw [hD.size]; exact hlt)]; exact hD.no k (Nat.le_refl _)) fun e he hbe => hD.yes _ (by
    have := backB_lt hbk (i := k) (o := o) (by simpa using ho) e he hbe
    omega)
  refine ⟨fun hr => (by rw [hr] at hmem; cases hmem), fun i hi => ?_⟩
  obtain ⟨hil, o', ho', hL, hdeps⟩ := mem_ready hi
  have hik : i = k := by
    have h1 : k ≤ i := by
      apply Nat.le_of_not_lt
      intro h
      rw [getD_same (by rw [hD.size]; exact hil), hD.yes i h] at hL; cases hL
    by_cases he : i = k
    · exact he
    · obtain ⟨o2, ho2, e, he, hbe, h3, h4⟩ := bot_dep hb (by omega : k < i) hil
      rw [ho'] at ho2; cases ho2
      have := hdeps e he hbe
      rw [hD.no _ h3] at this; cases this
  subst hik
  have hl := h a w hs
  have hK : ∀ a' w', wpListIn (fen E.rd) 0 P ops (lift E (thenQ (fun s => JA P E ops (i + 1) s Q) Q)) [] a' w' → wpAnyIn (fen E.rd) 0 P .any ops (lift E Q) fuel (L.setIfInBounds i true) a' w' := fun a' w' ⟨s, hs1, hs2⟩ =>
    hs1 fuel _ a' w' ⟨by simpa using hD.size, fun j hj => by rw [getD_set _ _ _ (by rw [hD.size]; omega)]; split; rfl; exact hD.yes j (by omega), fun j hj => by rw [getD_set _ _ _ (by rw [hD.size]; omega), if_neg (by omega)]; exact hD.no j (by omega)⟩ (by omega) (by omega) hs2
  unfold wpOpIn
  simp only [ho]
  unfold wpListIn at hl
  split
  · rename_i hw
    rw [if_pos hw] at hl
    exact Oper.wpIn_monoQ (fun ch a w h => lift_q (by intro h; cases h) h) (fun h => by first | exact fun a w => lift_q (by intro h; cases h) (h a w) | exact h) (Oper.wpIn_mono hK hl)
  · rename_i hw
    rw [if_neg hw] at hl
    exact ⟨hl.1, hK _ _ hl.2⟩
/-- What an operation may know: what the operations of its group that it waits for have made, and what was there. -/
def EnvP (b : Nat) (o : Oper) (don env env' : List (Nat × AV)) : Prop := ∀ s x, lk env' s = some x → (∃ j, depsOk o [b + j] = true ∧ don[j]? = some (s, x)) ∨ lk env s = some x
inductive AnyP (P : Program) (E : Ent) (ops : Array Oper) (n : Nat) (env : List (Nat × AV)) (own : List Own) (F : List (Value × AV)) (D : List Deferred) (b : Nat) : List Oper → List (Nat × AV) → List (Nat × AV) → Prop
  | nil (don : List (Nat × AV)) : AnyP P E ops n env own F D b [] don don
  | cons {o : Oper} {os : List Oper} {don all : List (Nat × AV)} {d : Nat} {x : AV} {env' : List (Nat × AV)} (hd : o.dst = some d) (hn : Nat.blt d n = true) (he : EnvP b o don env env')
      (hs : Step P E ops ⟨n, env', own, F, D⟩ o x) (h : AnyP P E ops n env own F D b os (don ++ [(d, x)]) all) : AnyP P E ops n env own F D b (o :: os) don all
theorem AnyP.get {b : Nat} {os : List Oper} {don all : List (Nat × AV)} (h : AnyP P E ops n env own F D b os don all) : (∃ r, all = don ++ r ∧ r.length = os.length) ∧
    ∀ j o, os[j]? = some o → ∃ d x env', all[don.length + j]? = some (d, x) ∧ o.dst = some d ∧ d < n ∧ EnvP b o (all.take (don.length + j)) env env' ∧ Step P E ops ⟨n, env', own, F, D⟩ o x := by
  induction h with
  | nil don => exact ⟨⟨[], by simp, rfl⟩, fun j o h => by simp at h⟩
  | cons hd hn he hs _ ih =>
    rename_i o os don all d x env' _
    obtain ⟨⟨r, rfl, hr⟩, hk⟩ := ih
    refine ⟨⟨(d, x) :: r, by simp, by simp [hr]⟩, fun j o' ho' => ?_⟩
    cases j with
    | zero =>
      simp at ho'; subst ho'
      refine ⟨d, x, env', by simp, hd, blt_lt hn, ?_, hs⟩
      have : (don ++ [(d, x)] ++ r).take (don.length + 0) = don := by simp
      rw [this]; exact he
    | succ j =>
      have := hk j o' (by simpa using ho')
      rw [List.length_append, List.length_singleton, show don.length + 1 + j = don.length + (j + 1) by omega] at this
      exact this
/-- A group of quiet operations, in whatever order. -/
theorem JA.par {k m : Nat} {g : List Oper} {all : List (Nat × AV)} (hkm : k ≤ m) (hml : m ≤ ops.size) (hg : (ops.toList.drop k).take (m - k) = g) (hnd : nodupB (dsts g) = true) (hbk : backB 0 ops.toList = true) (hgr : grpOk k m ops.toList = true)
    (hany : AnyP P E ops n (dropEnv (dsts g) env) own F D k g [] all) (h : JA P E ops m ⟨n, all ++ dropEnv (dsts g) env, own, F, D⟩ Q) : JA P E ops k ⟨n, env, own, F, D⟩ Q := fun fuel₀ L₀ a₀ w₀ hD₀ hle₀ hf₀ ⟨A₀, hA₀⟩ => by
  obtain ⟨⟨_, hall0, hlen⟩, hst⟩ := hany.get
  rw [List.nil_append] at hall0
  subst hall0
  simp only [List.length_nil, Nat.zero_add] at hst
  have hgl : g.length = m - k := by rw [← hg]; simp; omega
  have hgi : ∀ j o, k ≤ j → j < m → (ops[j]? = some o ↔ g[j - k]? = some o) := fun j o h1 h2 => by
    rw [← hg, List.getElem?_take_of_lt (by omega), List.getElem?_drop, show k + (j - k) = j by omega]; simp
  let Inv : Array Bool → Foot → Act → World → Prop := fun L A a w => L.size = ops.size ∧ SatA E A ⟨n, dropEnv (dsts g) env, own, F, D⟩ a w ∧
    (∀ i d x, all[i]? = some (d, x) → L.getD (k + i) false = true → Rd w A (a.tmps.getD d undef) x) ∧
    (∀ i o, ops[i]? = some o → L.getD i false = true → ∀ e ∈ o.after, Region.binds .any e = true → L.getD e.on false = true) ∧
    (∀ i, i < k → L.getD i false = true) ∧ (∀ i, m ≤ i → L.getD i false = false)
  have hdone : ∀ fuel L A a w, ops.size - m ≤ fuel → (∀ i, k ≤ i → i < m → L.getD i false = true) → Inv L A a w → wpAnyIn (fen E.rd) 0 P .any ops (lift E Q) fuel L a w := by
    intro fuel L A a w hf hall ⟨h0, h1, h2, h3, h4, h5⟩
    refine h fuel L a w ⟨h0, fun i hi => ?_, h5⟩ hml hf ⟨A, h1.size, h1.defers, h1.keep, h1.hp, fun s x hl => ?_, h1.facts⟩
    · by_cases hik : i < k
      · exact h4 i hik
      · exact hall i (by omega) hi
    · rw [lk_append] at hl
      rcases hl with hl | ⟨_, hl⟩
      · obtain ⟨i, hi⟩ := List.getElem?_of_mem (lk_mem _ _ _ hl)
        have hil : i < m - k := by have := (List.getElem?_eq_some_iff.1 hi).1; omega
        exact h2 i s x hi (hall _ (by omega) (by omega))
      · exact h1.env s x hl
  have key : ∀ fuel L A a w, cnt m (fun i => !L.getD i true) + (ops.size - m) ≤ fuel → Inv L A a w → wpAnyIn (fen E.rd) 0 P .any ops (lift E Q) fuel L a w := by
    intro fuel
    induction fuel with
    | zero =>
      intro L A a w hc hinv
      refine hdone 0 L A a w (by omega) (fun i _ hi => ?_) hinv
      have h0 : cnt m (fun i => !L.getD i true) = 0 := by omega
      have := List.countP_eq_zero.1 h0 i (by simpa using hi)
      rw [← getD_same (by rw [hinv.1]; omega)]
      simpa using this
    | succ fuel ih =>
      intro L A a w hc hinv
      by_cases hall : ∀ i, k ≤ i → i < m → L.getD i false = true
      · exact hdone _ L A a w (by omega) hall hinv
      have hinv' := hinv
      obtain ⟨h0, h1, h2, h3, h4, h5⟩ := hinv
      refine ⟨fun hr => ?_, fun i hi => ?_⟩
      · exfalso
        apply hall
        intro i
        induction i using Nat.strongRecOn with
        | _ i ihi =>
          intro hki hlt
          cases hL : L.getD i false with
          | true => rfl
          | false =>
            exfalso
            obtain ⟨o, ho⟩ : ∃ o, ops[i]? = some o := ⟨_, Array.getElem?_eq_getElem (by omega)⟩
            have : i ∈ Region.ready .any ops L := ready_mem h0 ho (by rw [getD_same (by omega)]; exact hL) fun e he hb => by
              have hon := backB_lt hbk (i := i) (o := o) (by simpa using ho) e he hb
              by_cases hek : e.on < k
              · exact h4 _ hek
              · exact ihi e.on (by omega) (by omega) (by omega)
            rw [hr] at this
            cases this
      · obtain ⟨hlt, o, ho, hunl, hdeps⟩ := mem_ready hi
        have hunl' : L.getD i false = false := by rw [← getD_same (by omega)]; exact hunl
        have hki : k ≤ i := by
          apply Nat.le_of_not_lt
          intro h
          rw [h4 i h] at hunl'; cases hunl'
        have him : i < m := by
          apply Nat.lt_of_not_le
          intro hge
          apply hall
          unfold grpOk at hgr
          have hne : Nat.beq m ops.toList.length = false := by
            cases hb : Nat.beq m ops.toList.length with
            | false => rfl
            | true => have := Nat.eq_of_beq_eq_true hb; simp at this; omega
          rw [hne, Bool.false_or, Bool.and_eq_true] at hgr
          obtain ⟨t1, t2⟩ := hgr
          have hm : i = m := by
            by_cases he : i = m
            · exact he
            · obtain ⟨o2, ho2, e, he, hbe, h6, h7⟩ := bot_dep t2 (by omega : m < i) hlt
              rw [ho] at ho2; cases ho2
              have := hdeps e he hbe
              rw [h5 _ h6] at this; cases this
          subst hm
          have pre : ∀ d j, i - j = d → k ≤ j → j < i → L.getD j false = true := by
            intro d
            induction d using Nat.strongRecOn with
            | _ d ihd =>
              intro j h6 h7 h8
              have := List.all_eq_true.1 t1 j (by simp [List.mem_range']; exact ⟨j - k, by omega, by omega⟩)
              obtain ⟨i', hi', hd⟩ := List.any_eq_true.1 this
              simp [List.mem_range'] at hi'
              obtain ⟨z, hz, rfl⟩ := hi'
              obtain ⟨o', ho', e, he, hb, hon⟩ := hasDep_iff hd
              rw [← hon]
              have ho'' : ops[j + 1 + z]? = some o' := by simpa using ho'
              by_cases he' : j + 1 + z = i
              · rw [he', ho] at ho''
                cases ho''
                exact hdeps e he hb
              · exact h3 _ o' ho'' (ihd (i - (j + 1 + z)) (by omega) _ rfl (by omega) (by omega)) e he hb
          exact fun j hj1 hj2 => pre _ j rfl hj1 hj2
        have ho' : g[i - k]? = some o := (hgi i o hki him).1 ho
        have hcnt : cnt m (fun j => !(L.setIfInBounds i true).getD j true) + (ops.size - m) ≤ fuel := by
          have := cnt_set (fun i => !L.getD i true) (fun j => !(L.setIfInBounds i true).getD j true) i (fun j hj => by rw [getD_set _ _ _ (by omega), if_neg hj]) (by simp [hunl]) (by rw [getD_set _ _ _ (by omega), if_pos rfl]; rfl) m
          rw [if_pos him] at this
          omega
        have hclo : ∀ j o', ops[j]? = some o' → (L.setIfInBounds i true).getD j false = true → ∀ e ∈ o'.after, Region.binds .any e = true → (L.setIfInBounds i true).getD e.on false = true := by
          intro j o' ho2 hLj e he hb
          rw [getD_set _ _ _ (by omega)] at hLj ⊢
          split
          · rfl
          · by_cases hji : j = i
            · subst hji; rw [ho] at ho2; cases ho2; exact hdeps e he hb
            · rw [if_neg hji] at hLj; exact h3 j o' ho2 hLj e he hb
        obtain ⟨d, x, env', hsx, hd, hdn, hds, hstep⟩ := hst (i - k) o ho'
        have hsat : SatA E A ⟨n, env', own, F, D⟩ a w := by
          refine ⟨h1.size, h1.defers, h1.keep, h1.hp, fun s y hl => ?_, h1.facts⟩
          rcases hds s y hl with ⟨j, hj, hp⟩ | h
          · obtain ⟨e, he, hb, hon⟩ := depsOk_get hj (List.mem_singleton.2 rfl)
            have hLj := hdeps e he hb
            rw [hon] at hLj
            refine h2 j s y ?_ hLj
            rw [List.getElem?_take] at hp
            split at hp
            · exact hp
            · cases hp
          · exact h1.env s y h
        have hother : ∀ j d' x', all[j]? = some (d', x') → j ≠ i - k → d ≠ d' := by
          intro j d' x' hj hji hdd
          subst hdd
          have hjlt : j < g.length := by have := (List.getElem?_eq_some_iff.1 hj).1; omega
          obtain ⟨oj, hoj⟩ : ∃ oj, g[j]? = some oj := ⟨_, List.getElem?_eq_getElem hjlt⟩
          obtain ⟨dj, xj, _, hsj, hdj, _⟩ := hst j oj hoj
          rw [hsj] at hj; cases hj
          exact hji (nodupB_ne hnd hoj ho' hdj hd)
        have hput : ∀ (v : Value) (w' : World) (A' : Foot), Frm w A w' A' → SatA E A' ⟨n, env', own, F, D⟩ a w' → Rd w' A' v x →
            wpAnyIn (fen E.rd) 0 P .any ops (lift E Q) fuel (L.setIfInBounds i true) (a.put o.dst v) w' := by
          intro v w' A' hf hs' hv
          refine ih _ A' _ w' hcnt ⟨by simpa using h0, ⟨?_, by rw [hd]; exact hs'.defers, hs'.keep, hs'.hp, fun s y hl => ?_, hs'.facts⟩, fun j d' x' hj hLj => ?_, hclo, fun j hj => ?_, fun j hj => ?_⟩
          · have := hs'.size; simp only [Act.put, hd, Array.size_setIfInBounds]; exact this
          · rw [hd]
            have hne : d ≠ s := by
              intro hds'
              subst hds'
              have := (lk_filter (fun k => !((dsts g).any (Nat.beq k))) env d y hl).2
              simp only [Bool.not_eq_true'] at this
              have hm := List.any_eq_false.1 this d (dsts_mem ho' hd)
              simp at hm
            rw [put_getD_ne hne]
            exact hf _ _ (h1.env s y hl)
          · rw [getD_set _ _ _ (by omega)] at hLj
            by_cases hji : j = i - k
            · subst hji
              rw [hsx] at hj; cases hj
              rw [hd, put_getD_same (by have := hs'.size; simp only at this; rw [this]; exact hdn)]
              exact hv
            · rw [if_neg (by omega)] at hLj
              rw [hd, put_getD_ne (hother j d' x' hj hji)]
              exact hf _ _ (h2 j d' x' hj hLj)
          · rw [getD_set _ _ _ (by omega)]
            split
            · rfl
            · exact h4 j hj
          · rw [getD_set _ _ _ (by omega), if_neg (by omega)]; exact h5 j hj
        have hs := hstep A a w hsat (wpAnyIn (fen E.rd) 0 P .any ops (lift E Q) fuel (L.setIfInBounds i true)) (lift E Q) hput
        unfold wpOpIn
        simp only [ho]
        split
        · rename_i hw; rw [if_pos hw] at hs; exact hs
        · rename_i hw; rw [if_neg hw] at hs; exact ⟨fun _ _ => trivial, hs⟩
  have hc0 : cnt m (fun i => !L₀.getD i true) + (ops.size - m) ≤ fuel₀ := by
    have hcm : ∀ j, j ≤ m → cnt j (fun i => !L₀.getD i true) ≤ j - k := by
      intro j
      induction j with
      | zero => intro _; simp [cnt]
      | succ j ihj =>
        intro hj
        have := ihj (by omega)
        rw [cnt_succ]
        by_cases hjk : j < k
        · have h1 : L₀.getD j true = true := by rw [getD_same (by rw [hD₀.size]; omega)]; exact hD₀.yes j hjk
          simp only [h1, Bool.not_true, Bool.false_eq_true, if_false]
          omega
        · split <;> omega
    have := hcm m (Nat.le_refl _)
    omega
  refine key fuel₀ L₀ A₀ a₀ w₀ hc0 ⟨hD₀.size, ⟨hA₀.size, hA₀.defers, hA₀.keep, hA₀.hp, fun s y hl => ?_, hA₀.facts⟩, fun i d x hi hL => ?_, fun i o ho hL e he hb => ?_, hD₀.yes, fun i hi => hD₀.no i (by omega)⟩
  · exact hA₀.env s y (lk_filter (fun k => !((dsts g).any (Nat.beq k))) env s y hl).1
  · rw [hD₀.no _ (by omega)] at hL; cases hL
  · have hik : i < k := by
      apply Nat.lt_of_not_le
      intro h
      rw [hD₀.no i h] at hL; cases hL
    have := backB_lt hbk (i := i) (o := o) (by simpa using ho) e he hb
    exact hD₀.yes _ (by omega)
/-- A group, one by one; the latest first. -/
def ParK (P : Program) (E : Ent) (ops : Array Oper) (n : Nat) (env : List (Nat × AV)) (own : List Own) (F : List (Value × AV)) (D : List Deferred) (b i : Nat) (os : List Oper) (don : List (Nat × AV)) (K : List (Nat × AV) → Prop) : Prop :=
  i = b + don.length → ∃ all, AnyP P E ops n env own F D b os don.reverse all ∧ K all.reverse
theorem selP_get {o : Oper} {sl : List Nat} {env : List (Nat × AV)} {b : Nat} : ∀ {don : List (Nat × AV)} {i : Nat}, i = b + don.length → chk o sl don i = true → EnvP b o don.reverse env (sel sl don ++ env)
  | [], i, _, _ => fun s x h => .inr (by simpa [sel] using h)
  | (s0, x0) :: don, i, hi, h => fun s x hl => by
    have hi' : i - 1 = b + don.length := by simp at hi; omega
    have hrec : chk o sl don (i - 1) = true → lk (sel sl don ++ env) s = some x → (∃ j, depsOk o [b + j] = true ∧ ((s0, x0) :: don).reverse[j]? = some (s, x)) ∨ lk env s = some x := fun hc hl => by
      rcases selP_get (don := don) (i := i - 1) hi' hc s x hl with ⟨j, h1, h2⟩ | h
      · exact .inl ⟨j, h1, by rw [List.reverse_cons, List.getElem?_append_left (List.getElem?_eq_some_iff.1 h2).1]; exact h2⟩
      · exact .inr h
    unfold sel at hl
    unfold chk at h
    split at hl
    · rename_i hb
      rw [hb] at h
      simp only [Bool.and_eq_true] at h
      rcases lk_cons hl with ⟨rfl, rfl⟩ | ⟨_, hl⟩
      · exact .inl ⟨don.length, by rw [← hi']; exact h.1, by rw [List.reverse_cons, List.getElem?_append_right (by simp)]; simp⟩
      · exact hrec h.2 hl
    · rename_i hb
      rw [hb] at h
      exact hrec h hl
theorem ParK.nil {b i : Nat} {don : List (Nat × AV)} {K : List (Nat × AV) → Prop} (h : K don) : ParK P E ops n env own F D b i [] don K := fun _ => ⟨don.reverse, .nil _, by rw [List.reverse_reverse]; exact h⟩
theorem ParK.cons {b i : Nat} {o : Oper} {os : List Oper} {don : List (Nat × AV)} {K : List (Nat × AV) → Prop} {d : Nat} {x : AV} (sl : List Nat) (hd : o.dst = some d) (hn : Nat.blt d n = true) (hc : chk o sl don i = true)
    (hs : Step P E ops ⟨n, sel sl don ++ env, own, F, D⟩ o x) (h : ParK P E ops n env own F D b (i + 1) os ((d, x) :: don) K) : ParK P E ops n env own F D b i (o :: os) don K := fun hi => by
  obtain ⟨all, h1, h2⟩ := h (by simp; omega)
  rw [List.reverse_cons] at h1
  exact ⟨all, .cons hd hn (selP_get hi hc) hs h1, h2⟩
theorem lk_rev {l : List (Nat × AV)} (hu : ∀ (a b : Nat) (x y : AV) (s : Nat), l[a]? = some (s, x) → l[b]? = some (s, y) → a = b) {s : Nat} {x : AV} (h : lk l s = some x) : lk l.reverse s = some x := by
  have h3 : (s, x) ∈ l.reverse := by simpa using lk_mem _ _ _ h
  cases h4 : lk l.reverse s with
  | none => exact absurd h3 (lk_none _ _ h4 x)
  | some y =>
    have h5 : (s, y) ∈ l := by simpa using lk_mem _ _ _ h4
    obtain ⟨a, ha⟩ := List.getElem?_of_mem (lk_mem _ _ _ h)
    obtain ⟨b, hb⟩ := List.getElem?_of_mem h5
    have := hu a b x y s ha hb
    subst this
    rw [ha] at hb; cases hb; rfl
theorem lk_rev_none {l : List (Nat × AV)} {s : Nat} (h : lk l.reverse s = none) : lk l s = none := by
  cases h4 : lk l s with
  | none => rfl
  | some y => exact absurd (by simpa using lk_mem _ _ _ h4) (lk_none _ _ h y)
/-- A group of the form in which the walks use it. -/
theorem JA.grp {k : Nat} (m : Nat) {g : List Oper} (hkm : Nat.ble k m = true) (hml : Nat.ble m ops.size = true) (hg : (ops.toList.drop k).take (m - k) = g) (hnd : nodupB (dsts g) = true) (hbk : backB 0 ops.toList = true) (hgr : grpOk k m ops.toList = true)
    (h : ParK P E ops n (dropEnv (dsts g) env) own F D k k g [] fun steps => JA P E ops m ⟨n, steps ++ dropEnv (dsts g) env, own, F, D⟩ Q) : JA P E ops k ⟨n, env, own, F, D⟩ Q := by
  obtain ⟨all, h1, h2⟩ := h (by simp)
  obtain ⟨⟨r, hr0, hlen⟩, hst⟩ := h1.get
  simp only [List.reverse_nil, List.nil_append] at hr0
  subst hr0
  simp only [List.reverse_nil, List.length_nil, Nat.zero_add] at hst
  refine JA.par (Nat.le_of_ble_eq_true hkm) (Nat.le_of_ble_eq_true hml) hg hnd hbk hgr h1 fun fuel L a w hD hle hf ⟨A, hA⟩ => h2 fuel L a w hD hle hf ⟨A, hA.size, hA.defers, hA.keep, hA.hp, fun s x hl => hA.env s x ?_, hA.facts⟩
  have hu : ∀ (a b : Nat) (x y : AV) (s : Nat), all[a]? = some (s, x) → all[b]? = some (s, y) → a = b := by
    intro a b x y s ha hb
    have ha' : a < g.length := by have := (List.getElem?_eq_some_iff.1 ha).1; omega
    have hb' : b < g.length := by have := (List.getElem?_eq_some_iff.1 hb).1; omega
    obtain ⟨d, x', _, h3, h4, _⟩ := hst a _ (List.getElem?_eq_getElem ha')
    obtain ⟨d', y', _, h6, h7, _⟩ := hst b _ (List.getElem?_eq_getElem hb')
    rw [h3] at ha; rw [h6] at hb
    simp only [Option.some.injEq, Prod.mk.injEq] at ha hb
    obtain ⟨rfl, _⟩ := ha
    obtain ⟨rfl, _⟩ := hb
    exact nodupB_ne hnd (List.getElem?_eq_getElem ha') (List.getElem?_eq_getElem hb') h4 h7
  rw [lk_append] at hl ⊢
  rcases hl with hl | ⟨hl1, hl2⟩
  · left
    have := lk_rev (l := all.reverse) (fun a b x y s ha hb => by
      have ha1 := (List.getElem?_eq_some_iff.1 ha).1
      have hb1 := (List.getElem?_eq_some_iff.1 hb).1
      rw [List.length_reverse] at ha1 hb1
      rw [List.getElem?_reverse ha1] at ha
      rw [List.getElem?_reverse hb1] at hb
      have := hu _ _ _ _ _ ha hb
      omega) hl
    rwa [List.reverse_reverse] at this
  · exact .inr ⟨lk_rev_none hl1, hl2⟩
end
end Go.Proofs.Ytkiankpmkglhcaa.J

/- Regions that draw their order: quiet operations and allocations float until one that waits for them; the others come one by one. -/
namespace Go.Proofs.Ytkiankpmkglhcaa.J
open Go Go.RowKit
set_option linter.unusedVariables false
set_option linter.unusedSimpArgs false
/-- One that floats: its place, its slot, what it comes to (a value, or a new variable's cells); fre: of what is owned it reads nothing but O. -/
structure Flt where
  i : Nat
  d : Nat
  v : AV ⊕ List AV
  fre : Bool
  O : Option (Nat × Own) := none
def Flt.ex (L : Array Bool) (bs : Nat → Nat) (φ : Flt) : List Own := match φ.v with
  | .inl _ => []
  | .inr z => if L.getD φ.i false = true then [.box (bs φ.i) z] else []
def exF (L : Array Bool) (bs : Nat → Nat) (Φ : List Flt) : List Own := Φ.flatMap (Flt.ex L bs)
def Flt.bx (bs : Nat → Nat) (φ : Flt) : List Own := match φ.v with
  | .inl _ => []
  | .inr z => [.box (bs φ.i) z]
def bxF (bs : Nat → Nat) : List Flt → List Own
  | [] => []
  | φ :: Φ => φ.bx bs ++ bxF bs Φ
def Flt.val (bs : Nat → Nat) (φ : Flt) : AV := match φ.v with
  | .inl x => x
  | .inr _ => .c (.pointer (some ⟨bs φ.i, 0, none⟩))
def vlF (bs : Nat → Nat) : List Flt → List (Nat × AV)
  | [] => []
  | φ :: Φ => (φ.d, φ.val bs) :: vlF bs Φ
/-- Those that a mask takes, and the others. -/
def tkM : List Bool → List Flt → List Flt
  | true :: ms, φ :: Φ => φ :: tkM ms Φ
  | false :: ms, _ :: Φ => tkM ms Φ
  | _, _ => []
def lvM : List Bool → List Flt → List Flt
  | true :: ms, _ :: Φ => lvM ms Φ
  | false :: ms, φ :: Φ => φ :: lvM ms Φ
  | _, Φ => Φ
theorem tl_perm : ∀ (ms : List Bool) (Φ : List Flt), Φ.Perm (tkM ms Φ ++ lvM ms Φ)
  | [], Φ => by simp [tkM, lvM]
  | _ :: _, [] => by simp [tkM, lvM]
  | true :: ms, φ :: Φ => by simpa [tkM, lvM] using tl_perm ms Φ
  | false :: ms, φ :: Φ => by
    simp only [tkM, lvM]
    exact (List.Perm.cons φ (tl_perm ms Φ)).trans List.perm_middle.symm
def memB (i : Nat) (l : List Nat) : Bool := l.any (Nat.beq i)
theorem memB_iff {i : Nat} {l : List Nat} : memB i l = true ↔ i ∈ l := by
  simp only [memB, List.any_eq_true]
  exact ⟨fun ⟨x, h1, h2⟩ => Nat.eq_of_beq_eq_true h2 ▸ h1, fun h => ⟨i, h, by simp⟩⟩
/-- All others wait for one that is neither settled nor floats. -/
def blkB (l : List Oper) (S Φ : List Nat) (i : Nat) : Bool := (List.range l.length).all fun j => memB j S || memB j Φ || Nat.beq j i || (match l[j]? with
  | some o => o.after.toList.any fun e => Region.binds .any e && !memB e.on S && !memB e.on Φ
  | none => true)
/-- Each of these is one that o, or one of the others of them further ahead, waits for. -/
def lndB (l : List Oper) (o : Oper) : List Oper → List Nat → Bool
  | _, [] => true
  | os, i :: Φ => (depsOk o [i] || os.any fun o' => depsOk o' [i]) && lndB l o (match l[i]? with | some o' => o' :: os | none => os) Φ
section
variable {P : Program} {E : Ent} {Q : Exit → St → Prop} {n : Nat} {env : List (Nat × AV)} {own : List Own} {F : List (Value × AV)} {D : List Deferred} {ops : Array Oper}
/-- It can run. -/
def FOk (P : Program) (E : Ent) (ops : Array Oper) (n : Nat) (env : List (Nat × AV)) (own : List Own) (F : List (Value × AV)) (D : List Deferred) (Φ : List Flt) (φ : Flt) : Prop :=
  ∃ o, ops[φ.i]? = some o ∧ o.dst = some φ.d ∧ φ.d < n ∧ match φ.v with
    | .inr z => AllocOp P o φ.d z
    | .inl x => ∃ e : List (Nat × AV), (∀ s y, lk e s = some y → lk env s = some y ∨ ∃ ψ ∈ Φ, ψ.d = s ∧ ψ.v = .inl y ∧ depsOk o [ψ.i] = true) ∧
      (∀ k en, φ.O = some (k, en) → own[k]? = some en) ∧ ∀ own', (φ.fre = false → ∃ ex, own' = own ++ ex) → (∀ k en, φ.O = some (k, en) → own'[k]? = some en) → Step P E ops ⟨n, e, own', F, D⟩ o x
/-- What those that float read stands where it stood. -/
def okO (own : List Own) : List Flt → Prop
  | [] => True
  | φ :: Φ => (match φ.O with | some (k, en) => own[k]? = some en | none => True) ∧ okO own Φ
theorem okO_get {own : List Own} : ∀ {Φ : List Flt}, okO own Φ → ∀ φ ∈ Φ, ∀ k en, φ.O = some (k, en) → own[k]? = some en
  | ψ :: Φ, h, φ, hφ, k, en, he => by
    rcases List.mem_cons.1 hφ with rfl | hφ
    · have := h.1; rw [he] at this; exact this
    · exact okO_get h.2 φ hφ k en he
structure WfX (ops : Array Oper) (env : List (Nat × AV)) (S : List Nat) (Φ : List Flt) : Prop where
  nd : (Φ.map (·.i)).Nodup
  ndd : (Φ.map (·.d)).Nodup
  ns : ∀ φ ∈ Φ, φ.i ∉ S
  ne : ∀ φ ∈ Φ, lk env φ.d = none
structure Cfg (E : Ent) (ops : Array Oper) (n : Nat) (env : List (Nat × AV)) (own : List Own) (F : List (Value × AV)) (D : List Deferred) (S : List Nat) (Φ : List Flt) (L : Array Bool) (bs : Nat → Nat) (A : Foot) (a : Act) (w : World) : Prop where
  size : L.size = ops.size
  yes : ∀ i ∈ S, L.getD i false = true
  no : ∀ i, i ∉ S → (∀ φ ∈ Φ, φ.i ≠ i) → L.getD i false = false
  clo : ∀ i o, ops[i]? = some o → L.getD i false = true → ∀ e ∈ o.after, Region.binds .any e = true → L.getD e.on false = true
  sat : SatA E A ⟨n, env, own ++ exF L bs Φ, F, D⟩ a w
  val : ∀ φ ∈ Φ, L.getD φ.i false = true → Rd w A (a.tmps.getD φ.d undef) (φ.val bs)
/-- The rest of a region: S is settled, Φ floats. -/
def JX (P : Program) (E : Ent) (ops : Array Oper) (S : List Nat) (Φ : List Flt) (st : St) (Q : Exit → St → Prop) : Prop :=
  WfX ops st.env S Φ → (∀ φ ∈ Φ, FOk P E ops st.n st.env st.own st.facts st.dfs Φ φ) →
    ∀ fuel L bs A a w, cnt ops.size (fun i => !L.getD i true) ≤ fuel → Cfg E ops st.n st.env st.own st.facts st.dfs S Φ L bs A a w → wpAnyIn (fen E.rd) 0 P .any ops (lift E Q) fuel L a w
theorem exF_perm {L : Array Bool} {bs : Nat → Nat} {Φ Φ' : List Flt} (h : Φ.Perm Φ') : (exF L bs Φ).Perm (exF L bs Φ') := h.flatMap_right _
theorem exF_append (L : Array Bool) (bs : Nat → Nat) (Φ Φ' : List Flt) : exF L bs (Φ ++ Φ') = exF L bs Φ ++ exF L bs Φ' := by simp [exF]
theorem exF_done {L : Array Bool} {bs : Nat → Nat} : ∀ {Φ : List Flt}, (∀ φ ∈ Φ, L.getD φ.i false = true) → exF L bs Φ = bxF bs Φ
  | [], _ => rfl
  | φ :: Φ, h => by
    have h1 := h φ (by simp)
    have h2 := exF_done (L := L) (bs := bs) (Φ := Φ) fun ψ hψ => h ψ (by simp [hψ])
    unfold exF at h2 ⊢
    rw [List.flatMap_cons, h2, bxF]
    congr 1
    unfold Flt.ex Flt.bx
    split
    · rename_i heq; simp [heq]
    · rename_i z heq; simp [heq, h1]
theorem exF_congr {L L' : Array Bool} {bs bs' : Nat → Nat} : ∀ {Φ : List Flt}, (∀ φ ∈ Φ, L'.getD φ.i false = L.getD φ.i false ∧ bs' φ.i = bs φ.i) → exF L' bs' Φ = exF L bs Φ
  | [], _ => rfl
  | φ :: Φ, h => by
    have h1 := h φ (by simp)
    have h2 := exF_congr (L := L) (L' := L') (bs := bs) (bs' := bs') (Φ := Φ) fun ψ hψ => h ψ (by simp [hψ])
    unfold exF at h2 ⊢
    rw [List.flatMap_cons, List.flatMap_cons, h2]
    congr 1
    unfold Flt.ex
    rw [h1.1, h1.2]
theorem exF_ext {L L' : Array Bool} {bs : Nat → Nat} : ∀ {Φ : List Flt}, (∀ φ ∈ Φ, φ.ex L' bs = φ.ex L bs) → exF L' bs Φ = exF L bs Φ
  | [], _ => rfl
  | φ :: Φ, h => by
    have h2 := exF_ext (L := L) (L' := L') (bs := bs) (Φ := Φ) fun ψ hψ => h ψ (by simp [hψ])
    unfold exF at h2 ⊢
    rw [List.flatMap_cons, List.flatMap_cons, h2, h φ (by simp)]
theorem lk_vlF {bs : Nat → Nat} {env : List (Nat × AV)} : ∀ {Φ : List Flt} {s : Nat} {x : AV}, lk (vlF bs Φ ++ env) s = some x → (∃ φ ∈ Φ, φ.d = s ∧ φ.val bs = x) ∨ lk env s = some x
  | [], _, _, h => .inr h
  | φ :: Φ, s, x, h => by
    rcases lk_cons h with ⟨rfl, rfl⟩ | ⟨_, h⟩
    · exact .inl ⟨φ, by simp, rfl, rfl⟩
    · rcases lk_vlF h with ⟨ψ, h1, h2⟩ | h
      · exact .inl ⟨ψ, by simp [h1], h2⟩
      · exact .inr h
theorem lk_vlF_mem {bs : Nat → Nat} {env : List (Nat × AV)} : ∀ {Φ : List Flt} {φ : Flt}, (Φ.map (·.d)).Nodup → φ ∈ Φ → lk (vlF bs Φ ++ env) φ.d = some (φ.val bs)
  | ψ :: Φ, φ, hn, h => by
    rw [List.map_cons, List.nodup_cons] at hn
    rw [vlF, List.cons_append, lk_hd]
    rcases List.mem_cons.1 h with rfl | h
    · simp
    · have hne : Nat.beq ψ.d φ.d = false := by
        cases hb : Nat.beq ψ.d φ.d with
        | false => rfl
        | true => exact absurd (List.mem_map.2 ⟨φ, h, (Nat.eq_of_beq_eq_true hb).symm⟩) hn.1
      rw [hne]
      exact lk_vlF_mem hn.2 h
theorem lk_vlF_none {bs : Nat → Nat} {env : List (Nat × AV)} : ∀ {Φ : List Flt} {s : Nat}, (∀ φ ∈ Φ, φ.d ≠ s) → lk (vlF bs Φ ++ env) s = lk env s
  | [], _, _ => rfl
  | ψ :: Φ, s, h => by
    rw [vlF, List.cons_append, lk_hd]
    have hne : Nat.beq ψ.d s = false := by
      cases hb : Nat.beq ψ.d s with
      | false => rfl
      | true => exact absurd (Nat.eq_of_beq_eq_true hb) (h ψ (by simp))
    rw [hne]
    exact lk_vlF_none fun φ hφ => h φ (by simp [hφ])
/-- One that floats comes up: it runs, and the same holds. -/
theorem Cfg.run {S : List Nat} {Φ : List Flt} {L : Array Bool} {bs : Nat → Nat} {A : Foot} {a : Act} {w : World} (hw : WfX ops env S Φ) (hF : ∀ φ ∈ Φ, FOk P E ops n env own F D Φ φ) (hc : Cfg E ops n env own F D S Φ L bs A a w) {φ : Flt} (hφ : φ ∈ Φ) (hun : L.getD φ.i false = false) (hlt : φ.i < ops.size)
    (hdeps : ∀ o, ops[φ.i]? = some o → ∀ e ∈ o.after, Region.binds .any e = true → L.getD e.on false = true) {fuel : Nat} {Qx : Exit → Act → World → Prop}
    (hk : ∀ bs' A' a' w', Cfg E ops n env own F D S Φ (L.setIfInBounds φ.i true) bs' A' a' w' → wpAnyIn (fen E.rd) 0 P .any ops Qx fuel (L.setIfInBounds φ.i true) a' w') :
    wpOpIn (fen E.rd) 0 P ops Qx φ.i (wpAnyIn (fen E.rd) 0 P .any ops Qx fuel (L.setIfInBounds φ.i true)) a w := by
  obtain ⟨o, ho, hd, hdn, hm⟩ := hF φ hφ
  have hLs : φ.i < L.size := by rw [hc.size]; exact hlt
  have hset : ∀ j, (L.setIfInBounds φ.i true).getD j false = if j = φ.i then true else L.getD j false := fun j => getD_set _ _ _ hLs _
  have hyes : ∀ i ∈ S, (L.setIfInBounds φ.i true).getD i false = true := fun i hi => by rw [hset]; split; rfl; exact hc.yes i hi
  have hno : ∀ i, i ∉ S → (∀ ψ ∈ Φ, ψ.i ≠ i) → (L.setIfInBounds φ.i true).getD i false = false := fun i h1 h2 => by rw [hset, if_neg (fun h => h2 φ hφ h.symm)]; exact hc.no i h1 h2
  have hclo : ∀ i o, ops[i]? = some o → (L.setIfInBounds φ.i true).getD i false = true → ∀ e ∈ o.after, Region.binds .any e = true → (L.setIfInBounds φ.i true).getD e.on false = true := fun i o' ho' hL e he hb => by
    rw [hset] at hL ⊢
    split
    · rfl
    · by_cases hi : i = φ.i
      · subst hi; exact hdeps o' ho' e he hb
      · rw [if_neg hi] at hL; exact hc.clo i o' ho' hL e he hb
  have hne : ∀ ψ ∈ Φ, ψ.i ≠ φ.i → φ.d ≠ ψ.d := fun ψ hψ hi hd' => by
    have := hw.ndd
    rw [List.nodup_iff_pairwise_ne, List.pairwise_map] at this
    obtain ⟨x, hx⟩ := List.getElem?_of_mem hφ
    obtain ⟨y, hy⟩ := List.getElem?_of_mem hψ
    by_cases hxy : x = y
    · subst hxy; rw [hx] at hy; cases hy; exact hi rfl
    · rw [List.pairwise_iff_getElem] at this
      obtain ⟨h1, h2⟩ := List.getElem?_eq_some_iff.1 hx
      obtain ⟨h3, h4⟩ := List.getElem?_eq_some_iff.1 hy
      rcases Nat.lt_or_gt_of_ne hxy with h | h
      · have := this x y h1 h3 h; rw [h2, h4] at this; exact this hd'
      · have := this y x h3 h1 h; rw [h2, h4] at this; exact this hd'.symm
  have huniq : ∀ ψ ∈ Φ, ψ.i = φ.i → ψ = φ := fun ψ hψ hi => by
    have := hw.nd
    rw [List.nodup_iff_pairwise_ne, List.pairwise_map, List.pairwise_iff_getElem] at this
    obtain ⟨x, hx⟩ := List.getElem?_of_mem hφ
    obtain ⟨y, hy⟩ := List.getElem?_of_mem hψ
    obtain ⟨h1, h2⟩ := List.getElem?_eq_some_iff.1 hx
    obtain ⟨h3, h4⟩ := List.getElem?_eq_some_iff.1 hy
    by_cases hxy : x = y
    · subst hxy; rw [hx] at hy; cases hy; rfl
    · rcases Nat.lt_or_gt_of_ne hxy with h | h
      · have := this x y h1 h3 h; rw [h2, h4] at this; exact absurd hi.symm this
      · have := this y x h3 h1 h; rw [h2, h4] at this; exact absurd hi this
  have hput : ∀ v s, φ.d ≠ s → (a.put o.dst v).tmps.getD s undef = a.tmps.getD s undef := fun v s h => by rw [hd]; exact put_getD_ne h
  unfold wpOpIn
  simp only [ho]
  cases hv : φ.v with
  | inl x =>
    rw [hv] at hm
    obtain ⟨e, he, hO, hs⟩ := hm
    have hexs : ∀ bs, exF (L.setIfInBounds φ.i true) bs Φ = exF L bs Φ := fun bs => by
      refine exF_ext fun ψ hψ => ?_
      unfold Flt.ex
      by_cases hi : ψ.i = φ.i
      · rw [huniq ψ hψ hi, hv]
      · rw [hset, if_neg hi]
    have hsat : SatA E A ⟨n, e, own ++ exF L bs Φ, F, D⟩ a w := ⟨hc.sat.size, hc.sat.defers, hc.sat.keep, hc.sat.hp, fun s y hl => by
      rcases he s y hl with h | ⟨ψ, hψ, rfl, hψv, hψd⟩
      · exact hc.sat.env s y h
      · obtain ⟨e', he', hb, hon⟩ := depsOk_get hψd (List.mem_singleton.2 rfl)
        have h1 := hdeps o ho e' he' hb
        rw [hon] at h1
        have := hc.val ψ hψ h1
        unfold Flt.val at this
        rw [hψv] at this
        exact this, hc.sat.facts⟩
    have h1 := hs _ (fun _ => ⟨_, rfl⟩) (fun k en hk => by
      have := hO k en hk
      rw [List.getElem?_append_left (List.getElem?_eq_some_iff.1 this).1]; exact this) A a w hsat (wpAnyIn (fen E.rd) 0 P .any ops Qx fuel (L.setIfInBounds φ.i true)) Qx fun v w' A' hf hs' hr => hk bs A' _ w'
      ⟨by simpa using hc.size, hyes, hno, hclo, by
        rw [hexs]
        exact ⟨by have := hs'.size; simp only [Act.put, hd, Array.size_setIfInBounds]; exact this, by rw [hd]; exact hs'.defers, hs'.keep, hs'.hp, fun s y hl => by
          rw [hput v s (fun h => by rw [← h, hw.ne φ hφ] at hl; cases hl)]
          exact hf _ _ (hc.sat.env s y hl), hs'.facts⟩, fun ψ hψ hL => by
        by_cases hi : ψ.i = φ.i
        · obtain rfl := huniq ψ hψ hi
          rw [hd, put_getD_same (by have := hs'.size; simp only at this; rw [this]; exact hdn)]
          unfold Flt.val
          rw [hv]
          exact hr
        · rw [hset, if_neg hi] at hL
          rw [hput v _ (hne ψ hψ hi)]
          exact hf _ _ (hc.val ψ hψ hL)⟩
    split
    · rename_i hw'; rw [if_pos hw'] at h1; exact h1
    · rename_i hw'; rw [if_neg hw'] at h1; exact ⟨fun _ _ => trivial, h1⟩
  | inr z =>
    rw [hv] at hm
    have hga := hm.guard
    rw [if_pos (by simp [Region.wanted, hga])]
    refine hm.run (E := E) hc.sat (wpAnyIn (fen E.rd) 0 P .any ops Qx fuel (L.setIfInBounds φ.i true)) fun b w' hf hs' => ?_
    have hperm : (exF (L.setIfInBounds φ.i true) (fun j => if j = φ.i then b else bs j) Φ).Perm (.box b z :: exF L bs Φ) := by
      obtain ⟨p, q, rfl⟩ := List.append_of_mem hφ
      have hother : ∀ ψ ∈ p ++ q, (L.setIfInBounds φ.i true).getD ψ.i false = L.getD ψ.i false ∧ (if ψ.i = φ.i then b else bs ψ.i) = bs ψ.i := fun ψ hψ => by
        have hne' : ψ.i ≠ φ.i := fun hi => by
          have := hw.nd
          rw [List.map_append, List.map_cons] at this
          have h2 := (List.perm_middle.nodup_iff).1 this
          rw [List.nodup_cons] at h2
          exact h2.1 (by rw [← List.map_append, ← hi]; exact List.mem_map.2 ⟨ψ, hψ, rfl⟩)
        exact ⟨by rw [hset, if_neg hne'], by rw [if_neg hne']⟩
      have h1 := exF_congr (L := L) (L' := L.setIfInBounds φ.i true) (bs := bs) (bs' := fun j => if j = φ.i then b else bs j) (Φ := p) fun ψ hψ => hother ψ (List.mem_append_left _ hψ)
      have h2 := exF_congr (L := L) (L' := L.setIfInBounds φ.i true) (bs := bs) (bs' := fun j => if j = φ.i then b else bs j) (Φ := q) fun ψ hψ => hother ψ (List.mem_append_right _ hψ)
      have e1 : ∀ (L : Array Bool) (bs : Nat → Nat), exF L bs (p ++ φ :: q) = exF L bs p ++ (φ.ex L bs ++ exF L bs q) := fun L bs => by simp [exF]
      rw [e1, e1, h1, h2]
      have e2 : φ.ex (L.setIfInBounds φ.i true) (fun j => if j = φ.i then b else bs j) = [.box b z] := by unfold Flt.ex; rw [hv]; simp only [hset, if_true]
      have e3 : φ.ex L bs = [] := by unfold Flt.ex; rw [hv]; simp [hun]
      rw [e2, e3, List.nil_append]
      exact List.perm_middle
    have hs' : SatA E A ⟨n, env, own ++ exF (L.setIfInBounds φ.i true) (fun j => if j = φ.i then b else bs j) Φ, F, D⟩ a w' := hs'.perm (List.perm_middle.symm.trans (List.Perm.append_left _ hperm.symm))
    refine hk (fun j => if j = φ.i then b else bs j) A _ w' ⟨by simpa using hc.size, hyes, hno, hclo, ⟨by have := hs'.size; simp only [Act.put, hd, Array.size_setIfInBounds]; exact this, by rw [hd]; exact hs'.defers, hs'.keep, hs'.hp, fun s y hl => ?_, hs'.facts⟩, fun ψ hψ hL => ?_⟩
    · rw [hput _ s (fun h => by rw [← h, hw.ne φ hφ] at hl; cases hl)]
      exact hf _ _ (hc.sat.env s y hl)
    · by_cases hi : ψ.i = φ.i
      · obtain rfl := huniq ψ hψ hi
        rw [hd, put_getD_same (by have := hs'.size; simp only at this; rw [this]; exact hdn)]
        unfold Flt.val
        rw [hv]
        simp only [if_true]
        exact .c _
      · rw [hset, if_neg hi] at hL
        rw [hput _ _ (hne ψ hψ hi)]
        have := hf _ _ (hc.val ψ hψ hL)
        unfold Flt.val at this ⊢
        split
        · rename_i x heq; rw [heq] at this; exact this
        · rename_i z' heq; rw [heq] at this; simp only [if_neg hi]; exact this
theorem lndB_done {L : Array Bool} (hclo : ∀ i o, ops[i]? = some o → L.getD i false = true → ∀ e ∈ o.after, Region.binds .any e = true → L.getD e.on false = true) {o : Oper} (hdeps : ∀ e ∈ o.after, Region.binds .any e = true → L.getD e.on false = true) :
    ∀ (Φ : List Nat) (os : List Oper), (∀ o' ∈ os, ∀ e ∈ o'.after, Region.binds .any e = true → L.getD e.on false = true) → lndB ops.toList o os Φ = true → ∀ i ∈ Φ, L.getD i false = true
  | [], _, _, _ => fun _ h => by cases h
  | j :: Φ, os, hos, h => by
    unfold lndB at h
    rw [Bool.and_eq_true, Bool.or_eq_true] at h
    have hj : L.getD j false = true := by
      rcases h.1 with h1 | h1
      · obtain ⟨e, he, hb, hon⟩ := depsOk_get h1 (List.mem_singleton.2 rfl)
        rw [← hon]; exact hdeps e he hb
      · obtain ⟨o', ho', h1⟩ := List.any_eq_true.1 h1
        obtain ⟨e, he, hb, hon⟩ := depsOk_get h1 (List.mem_singleton.2 rfl)
        rw [← hon]; exact hos o' ho' e he hb
    have hrec := lndB_done hclo hdeps Φ _ (fun o' ho' => by
      split at ho'
      · rename_i o2 ho2
        rcases List.mem_cons.1 ho' with rfl | ho'
        · exact hclo j _ (by simpa using ho2) hj
        · exact hos o' ho'
      · exact hos o' ho') h.2
    intro i hi
    rcases List.mem_cons.1 hi with rfl | hi
    · exact hj
    · exact hrec i hi
theorem cnt_run {L : Array Bool} {i fuel : Nat} (hL : L.size = ops.size) (hi : i < ops.size) (hun : L.getD i true = false) (hc : cnt ops.size (fun i => !L.getD i true) ≤ fuel + 1) : cnt ops.size (fun j => !(L.setIfInBounds i true).getD j true) ≤ fuel := by
  have := cnt_set (fun i => !L.getD i true) (fun j => !(L.setIfInBounds i true).getD j true) i (fun j hj => by rw [getD_set _ _ _ (by omega), if_neg hj]) (by simp [hun]) (by rw [getD_set _ _ _ (by omega), if_pos rfl]; rfl) ops.size
  rw [if_pos hi] at this
  omega
theorem wpListIn_monoN {o : Oper} {K K' : St → Prop} {a : Act} {w : World} (h : wpListIn (fen E.rd) 0 P ops (lift E (thenQ K Q)) [o] a w) (hk : ∀ a w, lift E (thenQ K Q) .normal a w → lift E (thenQ K' Q) .normal a w) : wpListIn (fen E.rd) 0 P ops (lift E (thenQ K' Q)) [o] a w := by
  have hx : ∀ e, e ≠ .normal → ∀ a w, lift E (thenQ K Q) e a w → lift E (thenQ K' Q) e a w := fun e he a w ⟨s, h1, h2⟩ => ⟨s, by cases e <;> first | exact h1 | exact absurd rfl he, h2⟩
  unfold wpListIn at h ⊢
  split
  · rename_i hw
    rw [if_pos hw] at h
    exact Oper.wpIn_monoQ (fun ch a w h => hx _ (by intro h; cases h) a w h) (fun h => by first | exact fun a w => hx _ (by intro h; cases h) a w (h a w) | (obtain ⟨a, w, h⟩ := h; exact ⟨a, w, hx _ (by intro h; cases h) a w h⟩)) (Oper.wpIn_mono (fun a w h => hk a w h) h)
  · rename_i hw
    rw [if_neg hw] at h
    exact ⟨h.1, hk _ _ h.2⟩
/-- The next that is no float. -/
theorem JX.step {S : List Nat} {Φ : List Flt} (i : Nat) (ms : List Bool) {o : Oper} (ho : ops[i]? = some o) (hbk : backB 0 ops.toList = true) (hblk : blkB ops.toList S (Φ.map (·.i)) i = true) (hS : memB i S = false) (hΦ : memB i (Φ.map (·.i)) = false)
    (hlnd : lndB ops.toList o [] ((tkM ms Φ).map (·.i)) = true) (hfre : (lvM ms Φ).all (·.fre) = true)
    (h : ∀ bs pe ex, JL P E ops [o] ⟨n, vlF bs (tkM ms Φ) ++ (env ++ pe), own ++ (bxF bs (tkM ms Φ) ++ ex), F, D⟩ (thenQ (fun s => ∃ ev env' own', s.n = n ∧ s.env = env' ++ pe ∧ s.facts = F ∧ s.dfs = D ∧ env' = ev ++ (vlF bs (tkM ms Φ) ++ env) ∧ ev.all (fun p => o.dst == some p.1) = true ∧ Reown s.own (own' ++ ex) ∧
      (match o.dst with | some d => (Φ.all fun φ => !Nat.beq φ.d d) = true ∧ lk env d = none | none => True) ∧ okO own' (lvM ms Φ) ∧ JX P E ops (i :: ((tkM ms Φ).map (·.i) ++ S)) (lvM ms Φ) ⟨n, env', own', F, D⟩ Q) Q)) : JX P E ops S Φ ⟨n, env, own, F, D⟩ Q := fun hw hF => by
  have hlt : i < ops.size := (Array.getElem?_eq_some_iff.1 ho).1
  have hp := tl_perm ms Φ
  intro fuel
  induction fuel with
  | zero =>
    intro L bs A a w hc hcf
    exfalso
    have hi : L.getD i true = false := by
      rw [getD_same (by rw [hcf.size]; exact hlt)]
      exact hcf.no i (fun h => by rw [memB_iff.2 h] at hS; cases hS) fun φ hφ he => by rw [memB_iff.2 (List.mem_map.2 ⟨φ, hφ, he⟩)] at hΦ; cases hΦ
    have := List.countP_eq_zero.1 (Nat.le_zero.1 hc) i (by simpa using hlt)
    simp [hi] at this
  | succ fuel ih =>
    intro L bs A a w hc hcf
    have hundone : L.getD i false = false := hcf.no i (fun h => by rw [memB_iff.2 h] at hS; cases hS) fun φ hφ he => by rw [memB_iff.2 (List.mem_map.2 ⟨φ, hφ, he⟩)] at hΦ; cases hΦ
    refine ⟨fun hr => ?_, fun j hj => ?_⟩
    · exfalso
      have key : ∀ j, j < ops.size → L.getD j false = true := by
        intro j
        induction j using Nat.strongRecOn with
        | _ j ihj =>
          intro hjl
          cases hL : L.getD j false with
          | true => rfl
          | false =>
            exfalso
            obtain ⟨oj, hoj⟩ : ∃ oj, ops[j]? = some oj := ⟨_, Array.getElem?_eq_getElem hjl⟩
            have : j ∈ Region.ready .any ops L := ready_mem hcf.size hoj (by rw [getD_same (by rw [hcf.size]; exact hjl)]; exact hL) fun e he hb => by
              have hon := backB_lt hbk (i := j) (o := oj) (by simpa using hoj) e he hb
              exact ihj e.on (by omega) (by omega)
            rw [hr] at this
            cases this
      rw [key i hlt] at hundone; cases hundone
    · obtain ⟨hjl, oj, hoj, hunj, hdeps⟩ := mem_ready hj
      have hunj' : L.getD j false = false := by rw [← getD_same (by rw [hcf.size]; exact hjl)]; exact hunj
      by_cases hjΦ : ∃ φ ∈ Φ, φ.i = j
      · obtain ⟨φ, hφ, rfl⟩ := hjΦ
        exact hcf.run hw hF hφ hunj' hjl (fun o' ho' => by rw [hoj] at ho'; cases ho'; exact hdeps) fun bs' A' a' w' hcf' => ih _ bs' A' a' w' (cnt_run hcf.size hjl hunj hc) hcf'
      · have hji : j = i := by
          by_cases he : j = i
          · exact he
          · exfalso
            have h1 := List.all_eq_true.1 hblk j (by simpa using hjl)
            have h2 : memB j S = false := by
              cases hb : memB j S with
              | false => rfl
              | true => rw [hcf.yes j (memB_iff.1 hb)] at hunj'; cases hunj'
            have h3 : memB j (Φ.map (·.i)) = false := by
              cases hb : memB j (Φ.map (·.i)) with
              | false => rfl
              | true =>
                obtain ⟨φ, hφ, hφi⟩ := List.mem_map.1 (memB_iff.1 hb)
                exact absurd ⟨φ, hφ, hφi⟩ hjΦ
            have h4 : Nat.beq j i = false := by
              cases hb : Nat.beq j i with
              | false => rfl
              | true => exact absurd (Nat.eq_of_beq_eq_true hb) he
            have h5 : ops.toList[j]? = some oj := by simpa using hoj
            rw [h2, h3, h4, h5] at h1
            simp only [Bool.false_or] at h1
            obtain ⟨e, he, hb⟩ := List.any_eq_true.1 h1
            simp only [Bool.and_eq_true, Bool.not_eq_true'] at hb
            have h6 := hdeps e (by simpa using he) hb.1.1
            rw [hcf.no e.on (fun h => by rw [memB_iff.2 h] at hb; simp at hb) fun φ hφ hφi => by
              have := hb.2
              rw [memB_iff.2 (List.mem_map.2 ⟨φ, hφ, hφi⟩)] at this; cases this] at h6
            cases h6
        subst hji
        rw [ho] at hoj; cases hoj
        -- what it waits for has been done
        have hland : ∀ φ ∈ tkM ms Φ, L.getD φ.i false = true := fun φ hφ => lndB_done hcf.clo hdeps _ _ (fun o' h => by cases h) hlnd φ.i (List.mem_map.2 ⟨φ, hφ, rfl⟩)
        have hmem : ∀ φ, φ ∈ Φ ↔ φ ∈ tkM ms Φ ∨ φ ∈ lvM ms Φ := fun φ => by rw [hp.mem_iff, List.mem_append]
        obtain ⟨pe, hpe⟩ : ∃ pe, pe = vlF bs ((lvM ms Φ).filter fun φ => L.getD φ.i false) := ⟨_, rfl⟩
        have hndd : ((tkM ms Φ ++ lvM ms Φ).map (·.d)).Nodup := (hp.map _).nodup_iff.1 hw.ndd
        rw [List.map_append, List.nodup_append] at hndd
        have hnd : ((tkM ms Φ ++ lvM ms Φ).map (·.i)).Nodup := (hp.map _).nodup_iff.1 hw.nd
        rw [List.map_append, List.nodup_append] at hnd
        have hsat0 : SatA E A ⟨n, vlF bs (tkM ms Φ) ++ (env ++ pe), own ++ (bxF bs (tkM ms Φ) ++ exF L bs (lvM ms Φ)), F, D⟩ a w := by
          have h1 := hcf.sat.perm (List.Perm.append_left own ((exF_perm (L := L) (bs := bs) hp).trans (by rw [exF_append, exF_done hland])))
          refine ⟨h1.size, h1.defers, h1.keep, h1.hp, fun s x hl => ?_, h1.facts⟩
          rcases lk_vlF hl with ⟨φ, hφ, rfl, rfl⟩ | hl
          · exact hcf.val φ ((hmem φ).2 (.inl hφ)) (hland φ hφ)
          · rw [lk_append] at hl
            rcases hl with hl | ⟨_, hl⟩
            · exact hcf.sat.env s x hl
            · rw [hpe] at hl
              rcases lk_vlF (env := []) (by rw [List.append_nil]; exact hl) with ⟨φ, hφ, rfl, rfl⟩ | hl
              · rw [List.mem_filter] at hφ
                exact hcf.val φ ((hmem φ).2 (.inr hφ.1)) hφ.2
              · simp [lk] at hl
        have hl := h bs pe (exF L bs (lvM ms Φ)) a w ⟨A, hsat0⟩
        have hK : ∀ a' w', wpListIn (fen E.rd) 0 P ops (lift E (thenQ (fun s => ∃ ev env' own', s.n = n ∧ s.env = env' ++ pe ∧ s.facts = F ∧ s.dfs = D ∧ env' = ev ++ (vlF bs (tkM ms Φ) ++ env) ∧ ev.all (fun p => o.dst == some p.1) = true ∧ Reown s.own (own' ++ exF L bs (lvM ms Φ)) ∧
            (match o.dst with | some d => (Φ.all fun φ => !Nat.beq φ.d d) = true ∧ lk env d = none | none => True) ∧ okO own' (lvM ms Φ) ∧ JX P E ops (j :: ((tkM ms Φ).map (·.i) ++ S)) (lvM ms Φ) ⟨n, env', own', F, D⟩ Q) Q)) [] a' w' → wpAnyIn (fen E.rd) 0 P .any ops (lift E Q) fuel (L.setIfInBounds j true) a' w' := by
          rintro a' w' ⟨⟨n', env2, own2, F', D'⟩, ⟨ev, env', own', rfl, rfl, rfl, rfl, rfl, hev, hre, hdd, hoO, hX⟩, A', hsA⟩
          have hevd : ∀ s x, lk ev s = some x → o.dst = some s := fun s x hl' => by
            have := List.all_eq_true.1 hev _ (lk_mem _ _ _ hl')
            simpa using this
          have hlts : j < L.size := by rw [hcf.size]; exact hlt
          have hset : ∀ z, (L.setIfInBounds j true).getD z false = if z = j then true else L.getD z false := fun z => getD_set _ _ _ hlts _
          have hnot : ∀ φ ∈ Φ, φ.i ≠ j := fun φ hφ he => by rw [memB_iff.2 (List.mem_map.2 ⟨φ, hφ, he⟩)] at hΦ; cases hΦ
          have hevΦ : ∀ φ ∈ Φ, lk ev φ.d = none := fun φ hφ => by
            cases hle : lk ev φ.d with
            | none => rfl
            | some x =>
              have hd' := hevd _ _ hle
              rw [hd'] at hdd
              have := List.all_eq_true.1 hdd.1 φ hφ
              simp at this
          have hold : ∀ s y, lk env s = some y → lk (ev ++ (vlF bs (tkM ms Φ) ++ env)) s = some y := fun s y hl' => by
            rw [lk_append]
            have h1 : lk ev s = none := by
              cases hle : lk ev s with
              | none => rfl
              | some x =>
                have hd' := hevd _ _ hle
                rw [hd'] at hdd
                simp only at hdd
                rw [hdd.2] at hl'; cases hl'
            refine .inr ⟨h1, ?_⟩
            rw [lk_vlF_none fun φ hφ he => ?_]
            · exact hl'
            · rw [← he, hw.ne φ ((hmem φ).2 (.inl hφ))] at hl'; cases hl'
          have hexs : exF (L.setIfInBounds j true) bs (lvM ms Φ) = exF L bs (lvM ms Φ) := exF_congr fun φ hφ => ⟨by rw [hset, if_neg (hnot φ ((hmem φ).2 (.inr hφ)))], rfl⟩
          refine hX ⟨hnd.2.1, hndd.2.1, fun φ hφ hm => ?_, fun φ hφ => ?_⟩ (fun φ hφ => ?_) fuel _ bs A' a' w' (cnt_run hcf.size hlt hunj hc) ⟨by simpa using hcf.size, fun z hz => ?_, fun z hz1 hz2 => ?_, fun z oz hoz hLz e he hb => ?_, ?_, fun φ hφ hLφ => ?_⟩
          · rcases List.mem_cons.1 hm with hm | hm
            · exact hnot φ ((hmem φ).2 (.inr hφ)) hm
            · rcases List.mem_append.1 hm with hm | hm
              · exact hnd.2.2 _ hm _ (List.mem_map.2 ⟨φ, hφ, rfl⟩) rfl
              · exact hw.ns φ ((hmem φ).2 (.inr hφ)) hm
          · have hφΦ := (hmem φ).2 (.inr hφ)
            show lk (ev ++ (vlF bs (tkM ms Φ) ++ env)) φ.d = none
            cases hle : lk (ev ++ (vlF bs (tkM ms Φ) ++ env)) φ.d with
            | none => rfl
            | some y =>
              rw [lk_append] at hle
              rcases hle with hle | ⟨_, hle⟩
              · rw [hevΦ φ hφΦ] at hle; cases hle
              · rw [lk_vlF_none fun ψ hψ he => hndd.2.2 _ (List.mem_map.2 ⟨ψ, hψ, rfl⟩) _ (List.mem_map.2 ⟨φ, hφ, rfl⟩) he] at hle
                rw [hw.ne φ hφΦ] at hle; cases hle
          · obtain ⟨o', ho', hd', hdn', hm'⟩ := hF φ ((hmem φ).2 (.inr hφ))
            refine ⟨o', ho', hd', hdn', ?_⟩
            split at hm'
            · exact hm'
            · obtain ⟨e, he, _, hs⟩ := hm'
              refine ⟨e, fun s y hl' => ?_, okO_get hoO φ hφ, fun own2 _ hO2 => hs own2 (fun hf => ?_) hO2⟩
              · rcases he s y hl' with h1 | ⟨ψ, hψ, rfl, hψv, hψd⟩
                · exact .inl (hold s y h1)
                · rcases (hmem ψ).1 hψ with hψ' | hψ'
                  · left
                    rw [lk_append]
                    refine .inr ⟨hevΦ ψ hψ, ?_⟩
                    rw [lk_vlF_mem hndd.1 hψ']
                    unfold Flt.val
                    rw [hψv]
                  · exact .inr ⟨ψ, hψ', rfl, hψv, hψd⟩
              · have := List.all_eq_true.1 hfre φ hφ
                rw [hf] at this; cases this
          · rw [hset]
            split
            · rfl
            · rename_i hne
              rcases List.mem_cons.1 hz with hz | hz
              · exact absurd hz hne
              · rcases List.mem_append.1 hz with hz | hz
                · obtain ⟨φ, hφ, rfl⟩ := List.mem_map.1 hz
                  exact hland φ hφ
                · exact hcf.yes z hz
          · rw [hset, if_neg (fun h => hz1 (by simp [h]))]
            refine hcf.no z (fun h => hz1 (by simp [h])) fun φ hφ he => ?_
            rcases (hmem φ).1 hφ with h' | h'
            · exact hz1 (by rw [← he]; exact List.mem_cons_of_mem _ (List.mem_append_left _ (List.mem_map.2 ⟨φ, h', rfl⟩)))
            · exact hz2 φ h' he
          · rw [hset] at hLz ⊢
            split
            · rfl
            · by_cases hzj : z = j
              · subst hzj; rw [ho] at hoz; cases hoz; exact hdeps e he hb
              · rw [if_neg hzj] at hLz; exact hcf.clo z oz hoz hLz e he hb
          · rw [hexs]
            exact ⟨hsA.size, hsA.defers, hsA.keep, hsA.hp.reown hre, fun s y hl' => hsA.env s y (by rw [lk_append]; exact .inl hl'), hsA.facts⟩
          · rw [hset, if_neg (hnot φ ((hmem φ).2 (.inr hφ)))] at hLφ
            refine hsA.env φ.d (φ.val bs) ?_
            have hφΦ := (hmem φ).2 (.inr hφ)
            rw [lk_append]
            refine .inr ⟨?_, ?_⟩
            · show lk (ev ++ (vlF bs (tkM ms Φ) ++ env)) φ.d = none
              cases hle : lk (ev ++ (vlF bs (tkM ms Φ) ++ env)) φ.d with
              | none => rfl
              | some y =>
                rw [lk_append] at hle
                rcases hle with hle | ⟨_, hle⟩
                · rw [hevΦ φ hφΦ] at hle; cases hle
                · rw [lk_vlF_none fun ψ hψ he => hndd.2.2 _ (List.mem_map.2 ⟨ψ, hψ, rfl⟩) _ (List.mem_map.2 ⟨φ, hφ, rfl⟩) he] at hle
                  rw [hw.ne φ hφΦ] at hle; cases hle
            · rw [hpe]
              have := lk_vlF_mem (bs := bs) (env := []) (Φ := (lvM ms Φ).filter fun φ => L.getD φ.i false) (φ := φ) ((List.filter_sublist.map _).nodup hndd.2.1) (List.mem_filter.2 ⟨hφ, hLφ⟩)
              rwa [List.append_nil] at this
        unfold wpOpIn
        simp only [ho]
        unfold wpListIn at hl
        split
        · rename_i hw'
          rw [if_pos hw'] at hl
          exact Oper.wpIn_monoQ (fun ch a w h => lift_q (by intro h; cases h) h) (fun h => by first | exact fun a w => lift_q (by intro h; cases h) (h a w) | exact h) (Oper.wpIn_mono hK hl)
        · rename_i hw'
          rw [if_neg hw'] at hl
          exact ⟨hl.1, hK _ _ hl.2⟩
theorem FOk.more {Φ : List Flt} {φ ψ : Flt} (h : FOk P E ops n env own F D Φ φ) : FOk P E ops n env own F D (ψ :: Φ) φ := by
  obtain ⟨o, h1, h2, h3, h4⟩ := h
  refine ⟨o, h1, h2, h3, ?_⟩
  split at h4
  · exact h4
  · obtain ⟨e, he, hO, hs⟩ := h4
    refine ⟨e, fun s y hl => (he s y hl).imp id fun ⟨χ, k1, k2⟩ => ⟨χ, by simp [k1], k2⟩, hO, hs⟩
theorem JX.add {S : List Nat} {Φ : List Flt} (φ : Flt) (hS : memB φ.i S = false) (hΦ : memB φ.i (Φ.map (·.i)) = false) (hdd : (Φ.all fun ψ => !Nat.beq ψ.d φ.d) = true) (hne : lk env φ.d = none) (hok : FOk P E ops n env own F D (φ :: Φ) φ) (h : JX P E ops S (φ :: Φ) ⟨n, env, own, F, D⟩ Q) : JX P E ops S Φ ⟨n, env, own, F, D⟩ Q := fun hw hF fuel L bs A a w hc hcf => by
  have hun : L.getD φ.i false = false := hcf.no _ (fun h => by rw [memB_iff.2 h] at hS; cases hS) fun ψ hψ he => by rw [memB_iff.2 (List.mem_map.2 ⟨ψ, hψ, he⟩)] at hΦ; cases hΦ
  refine h ⟨?_, ?_, ?_, ?_⟩ (fun ψ hψ => ?_) fuel L bs A a w hc ⟨hcf.size, hcf.yes, fun i h1 h2 => hcf.no i h1 fun ψ hψ => h2 ψ (by simp [hψ]), hcf.clo, ?_, fun ψ hψ hL => ?_⟩
  · rw [List.map_cons, List.nodup_cons]
    exact ⟨fun h => (by rw [memB_iff.2 h] at hΦ; cases hΦ), hw.nd⟩
  · rw [List.map_cons, List.nodup_cons]
    refine ⟨fun h => ?_, hw.ndd⟩
    obtain ⟨ψ, hψ, he⟩ := List.mem_map.1 h
    have := List.all_eq_true.1 hdd ψ hψ
    rw [he] at this
    simp at this
  · intro ψ hψ
    rcases List.mem_cons.1 hψ with rfl | hψ
    · exact fun h => by rw [memB_iff.2 h] at hS; cases hS
    · exact hw.ns ψ hψ
  · intro ψ hψ
    rcases List.mem_cons.1 hψ with rfl | hψ
    · exact hne
    · exact hw.ne ψ hψ
  · rcases List.mem_cons.1 hψ with rfl | hψ
    · exact hok
    · exact (hF ψ hψ).more
  · have : exF L bs (φ :: Φ) = exF L bs Φ := by
      have : φ.ex L bs = [] := by unfold Flt.ex; split <;> simp [hun]
      simp [exF, this]
    rw [this]; exact hcf.sat
  · rcases List.mem_cons.1 hψ with rfl | hψ
    · rw [hun] at hL; cases hL
    · exact hcf.val ψ hψ hL
def selF (sl : List Nat) : List Flt → List (Nat × AV)
  | [] => []
  | ⟨_, d, .inl x, _, _⟩ :: Φ => match memB d sl with | true => (d, x) :: selF sl Φ | false => selF sl Φ
  | ⟨_, _, .inr _, _, _⟩ :: Φ => selF sl Φ
def chkF (o : Oper) (sl : List Nat) : List Flt → Bool
  | [] => true
  | ⟨i, d, .inl _, _, _⟩ :: Φ => (!memB d sl || depsOk o [i]) && chkF o sl Φ
  | ⟨_, _, .inr _, _, _⟩ :: Φ => chkF o sl Φ
theorem selF_get {o : Oper} {sl : List Nat} {env : List (Nat × AV)} : ∀ {Φ : List Flt}, chkF o sl Φ = true → ∀ s y, lk (selF sl Φ ++ env) s = some y → lk env s = some y ∨ ∃ ψ ∈ Φ, ψ.d = s ∧ ψ.v = .inl y ∧ depsOk o [ψ.i] = true
  | [], _, s, y, h => .inl (by simpa [selF] using h)
  | ⟨i, d, .inl x, fr, O⟩ :: Φ, hc, s, y, h => by
    unfold chkF at hc
    rw [Bool.and_eq_true, Bool.or_eq_true] at hc
    have hrec : lk (selF sl Φ ++ env) s = some y → lk env s = some y ∨ ∃ ψ ∈ (⟨i, d, .inl x, fr, O⟩ :: Φ : List Flt), ψ.d = s ∧ ψ.v = .inl y ∧ depsOk o [ψ.i] = true := fun h => (selF_get hc.2 s y h).imp id fun ⟨ψ, h1, h2⟩ => ⟨ψ, by simp [h1], h2⟩
    unfold selF at h
    split at h
    · rename_i hb
      rcases lk_cons h with ⟨rfl, rfl⟩ | ⟨_, h⟩
      · refine .inr ⟨_, List.mem_cons_self, rfl, rfl, ?_⟩
        have := hc.1
        rw [hb] at this
        simpa using this
      · exact hrec h
    · exact hrec h
  | ⟨i, d, .inr z, fr, O⟩ :: Φ, hc, s, y, h => (selF_get (sl := sl) (Φ := Φ) hc s y h).imp id fun ⟨ψ, h1, h2⟩ => ⟨ψ, by simp [h1], h2⟩
/-- A quiet one begins to float. -/
theorem JX.q {S : List Nat} {Φ : List Flt} {o : Oper} {d : Nat} {x : AV} (i : Nat) (sl : List Nat) (ho : ops[i]? = some o) (hd : o.dst = some d) (hn : Nat.blt d n = true) (hS : memB i S = false) (hΦ : memB i (Φ.map (·.i)) = false) (hdd : (Φ.all fun ψ => !Nat.beq ψ.d d) = true) (hne : lk env d = none) (hc : chkF o sl Φ = true)
    (hs : ∀ ex, Step P E ops ⟨n, selF sl Φ ++ env, own ++ ex, F, D⟩ o x) (h : JX P E ops S (⟨i, d, .inl x, false, none⟩ :: Φ) ⟨n, env, own, F, D⟩ Q) : JX P E ops S Φ ⟨n, env, own, F, D⟩ Q :=
  .add ⟨i, d, .inl x, false, none⟩ hS hΦ hdd hne ⟨o, ho, hd, blt_lt hn, selF sl Φ ++ env, fun s y hl => (selF_get hc s y hl).imp id fun ⟨ψ, h1, h2⟩ => ⟨ψ, by simp [h1], h2⟩, (fun k en h => by cases h), fun own' h _ => by obtain ⟨ex, rfl⟩ := h rfl; exact hs ex⟩ h
/-- One that reads nothing that is owned. -/
theorem JX.f {S : List Nat} {Φ : List Flt} {o : Oper} {d : Nat} {x : AV} (i : Nat) (sl : List Nat) (ho : ops[i]? = some o) (hd : o.dst = some d) (hn : Nat.blt d n = true) (hS : memB i S = false) (hΦ : memB i (Φ.map (·.i)) = false) (hdd : (Φ.all fun ψ => !Nat.beq ψ.d d) = true) (hne : lk env d = none) (hc : chkF o sl Φ = true)
    (hs : ∀ own', Step P E ops ⟨n, selF sl Φ ++ env, own', F, D⟩ o x) (h : JX P E ops S (⟨i, d, .inl x, true, none⟩ :: Φ) ⟨n, env, own, F, D⟩ Q) : JX P E ops S Φ ⟨n, env, own, F, D⟩ Q :=
  .add ⟨i, d, .inl x, true, none⟩ hS hΦ hdd hne ⟨o, ho, hd, blt_lt hn, selF sl Φ ++ env, fun s y hl => (selF_get hc s y hl).imp id fun ⟨ψ, h1, h2⟩ => ⟨ψ, by simp [h1], h2⟩, (fun k en h => by cases h), fun own' _ _ => hs own'⟩ h
/-- One that reads one entry of what is owned. -/
theorem JX.o {S : List Nat} {Φ : List Flt} {o : Oper} {d : Nat} {x : AV} {en : Own} (i : Nat) (k : Nat) (sl : List Nat) (ho : ops[i]? = some o) (hd : o.dst = some d) (hn : Nat.blt d n = true) (hS : memB i S = false) (hΦ : memB i (Φ.map (·.i)) = false) (hdd : (Φ.all fun ψ => !Nat.beq ψ.d d) = true) (hne : lk env d = none) (hc : chkF o sl Φ = true) (hk : own[k]? = some en)
    (hs : ∀ own', own'[k]? = some en → Step P E ops ⟨n, selF sl Φ ++ env, own', F, D⟩ o x) (h : JX P E ops S (⟨i, d, .inl x, true, some (k, en)⟩ :: Φ) ⟨n, env, own, F, D⟩ Q) : JX P E ops S Φ ⟨n, env, own, F, D⟩ Q :=
  .add ⟨i, d, .inl x, true, some (k, en)⟩ hS hΦ hdd hne ⟨o, ho, hd, blt_lt hn, selF sl Φ ++ env, fun s y hl => (selF_get hc s y hl).imp id fun ⟨ψ, h1, h2⟩ => ⟨ψ, by simp [h1], h2⟩, (fun k' en' h => by cases h; exact hk), fun own' _ h => hs own' (h k en rfl)⟩ h
/-- A new variable. -/
theorem JX.a {S : List Nat} {Φ : List Flt} {o : Oper} {d : Nat} {z : List AV} (i : Nat) (ho : ops[i]? = some o) (ha : AllocOp P o d z) (hn : Nat.blt d n = true) (hS : memB i S = false) (hΦ : memB i (Φ.map (·.i)) = false) (hdd : (Φ.all fun ψ => !Nat.beq ψ.d d) = true) (hne : lk env d = none)
    (h : JX P E ops S (⟨i, d, .inr z, true, none⟩ :: Φ) ⟨n, env, own, F, D⟩ Q) : JX P E ops S Φ ⟨n, env, own, F, D⟩ Q :=
  .add ⟨i, d, .inr z, true, none⟩ hS hΦ hdd hne ⟨o, ho, ha.dst, blt_lt hn, ha⟩ h
/-- All are settled, or float: they come up, and the region ends. -/
theorem JX.fin {S : List Nat} {Φ : List Flt} (hbk : backB 0 ops.toList = true) (hall : ((List.range ops.size).all fun i => memB i S || memB i (Φ.map (·.i))) = true) (h : ∀ bs, Q .normal ⟨n, vlF bs Φ ++ env, own ++ bxF bs Φ, F, D⟩) : JX P E ops S Φ ⟨n, env, own, F, D⟩ Q := fun hw hF fuel => by
  have hend : ∀ L bs A a w, Cfg E ops n env own F D S Φ L bs A a w → (∀ j, j < ops.size → L.getD j false = true) → lift E Q .normal a w := fun L bs A a w hcf hd => by
    have hdn : ∀ φ ∈ Φ, L.getD φ.i false = true := fun φ hφ => by
      obtain ⟨o, ho, _⟩ := hF φ hφ
      exact hd _ (Array.getElem?_eq_some_iff.1 ho).1
    refine ⟨_, h bs, A, hcf.sat.size, hcf.sat.defers, hcf.sat.keep, by rw [← exF_done hdn]; exact hcf.sat.hp, fun s x hl => ?_, hcf.sat.facts⟩
    rcases lk_vlF hl with ⟨φ, hφ, rfl, rfl⟩ | hl
    · exact hcf.val φ hφ (hdn φ hφ)
    · exact hcf.sat.env s x hl
  have hdone : ∀ L bs A a w, Cfg E ops n env own F D S Φ L bs A a w → Region.ready .any ops L = [] → ∀ j, j < ops.size → L.getD j false = true := by
    intro L bs A a w hcf hr j
    induction j using Nat.strongRecOn with
    | _ j ihj =>
      intro hjl
      cases hL : L.getD j false with
      | true => rfl
      | false =>
        exfalso
        obtain ⟨oj, hoj⟩ : ∃ oj, ops[j]? = some oj := ⟨_, Array.getElem?_eq_getElem hjl⟩
        have : j ∈ Region.ready .any ops L := ready_mem hcf.size hoj (by rw [getD_same (by rw [hcf.size]; exact hjl)]; exact hL) fun e he hb => by
          have hon := backB_lt hbk (i := j) (o := oj) (by simpa using hoj) e he hb
          exact ihj e.on (by omega) (by omega)
        rw [hr] at this
        cases this
  induction fuel with
  | zero =>
    intro L bs A a w hc hcf
    have hnil : Region.ready .any ops L = [] := by
      rw [List.eq_nil_iff_forall_not_mem]
      intro i hi
      obtain ⟨hlt, o, ho, hun, _⟩ := mem_ready hi
      have := List.countP_eq_zero.1 (Nat.le_zero.1 hc) i (by simpa using hlt)
      simp [hun] at this
    exact ⟨hnil, hend L bs A a w hcf (hdone L bs A a w hcf hnil)⟩
  | succ fuel ih =>
    intro L bs A a w hc hcf
    refine ⟨fun hr => hend L bs A a w hcf (hdone L bs A a w hcf hr), fun j hj => ?_⟩
    obtain ⟨hjl, oj, hoj, hunj, hdeps⟩ := mem_ready hj
    have hunj' : L.getD j false = false := by rw [← getD_same (by rw [hcf.size]; exact hjl)]; exact hunj
    have h1 := List.all_eq_true.1 hall j (by simpa using hjl)
    rw [Bool.or_eq_true] at h1
    rcases h1 with h1 | h1
    · rw [hcf.yes j (memB_iff.1 h1)] at hunj'; cases hunj'
    · obtain ⟨φ, hφ, rfl⟩ := List.mem_map.1 (memB_iff.1 h1)
      exact hcf.run hw hF hφ hunj' hjl (fun o' ho' => by rw [hoj] at ho'; cases ho'; exact hdeps) fun bs' A' a' w' hcf' => ih _ bs' A' a' w' (cnt_run hcf.size hjl hunj hc) hcf'
theorem J.regionX {id : Nat} {l : List Oper} (hm : P.follows .mixedOrders = true) (h : JX P E l.toArray [] [] ⟨n, dropEnv (dsts l) env, own, F, D⟩ Q) : J P E (.region id l.toArray true) ⟨n, env, own, F, D⟩ Q := fun a w ⟨A, hA⟩ => by
  have h0 : ∀ i, (Array.replicate l.toArray.size false).getD i false = false := fun i => by simp only [Array.getD_eq_getD_getElem?, Array.getElem?_replicate]; split <;> simp
  have hd := hA.drawn
  refine wpIn_region_any hm (h ⟨List.nodup_nil, List.nodup_nil, fun φ h => (by cases h), fun φ h => (by cases h)⟩ (fun φ h => by cases h) l.toArray.size _ (fun _ => 0) A a _ (Nat.le_trans List.countP_le_length (by simp)) ⟨by simp, fun i h => (by cases h), fun i _ _ => h0 i, fun i o _ hL => (by rw [h0] at hL; cases hL), ?_, fun φ h => by cases h⟩)
  have : exF (Array.replicate l.toArray.size false) (fun _ => 0) [] = [] := rfl
  rw [this, List.append_nil]
  exact ⟨hd.size, hd.defers, hd.keep, hd.hp, fun s y hl => hd.env s y (lk_filter (fun k => !((dsts l).any (Nat.beq k))) env s y hl).1, hd.facts⟩
/-- The same, in the form in which the walks use it. -/
theorem JX.one {S : List Nat} {Φ : List Flt} (i : Nat) (ms : List Bool) {o : Oper} (ho : ops[i]? = some o) (hbk : backB 0 ops.toList = true) (hblk : blkB ops.toList S (Φ.map (·.i)) i = true) (hS : memB i S = false) (hΦ : memB i (Φ.map (·.i)) = false)
    (hlnd : lndB ops.toList o [] ((tkM ms Φ).map (·.i)) = true) (hfre : (lvM ms Φ).all (·.fre) = true)
    (h : ∀ bs pe ex, JL P E ops [o] ⟨n, vlF bs (tkM ms Φ) ++ (env ++ pe), own ++ (bxF bs (tkM ms Φ) ++ ex), F, D⟩ (thenQ (fun s => ∃ ev own', s.n = n ∧ s.env = ev ++ (vlF bs (tkM ms Φ) ++ (env ++ pe)) ∧ s.facts = F ∧ s.dfs = D ∧ ev.all (fun p => o.dst == some p.1) = true ∧ Reown s.own (own' ++ ex) ∧
      (match o.dst with | some d => (Φ.all fun φ => !Nat.beq φ.d d) = true ∧ lk env d = none | none => True) ∧ okO own' (lvM ms Φ) ∧ JX P E ops (i :: ((tkM ms Φ).map (·.i) ++ S)) (lvM ms Φ) ⟨n, ev ++ (vlF bs (tkM ms Φ) ++ env), own', F, D⟩ Q) Q)) : JX P E ops S Φ ⟨n, env, own, F, D⟩ Q :=
  .step i ms ho hbk hblk hS hΦ hlnd hfre fun bs pe ex a w hs => by
    have := h bs pe ex a w hs
    refine wpListIn_monoN this fun a' w' ⟨s, ⟨ev, own', h1, h2, h3, h4, h5, h6, h7, h8, h9⟩, hs'⟩ => ⟨s, ⟨ev, _, own', h1, by rw [h2]; simp, h3, h4, rfl, h5, h6, h7, h8, h9⟩, hs'⟩
theorem JX.conv {S S' : List Nat} {Φ Φ' : List Flt} {st st' : St} (hS : S = S') (hΦ : Φ = Φ') (hst : st = st') (h : JX P E ops S' Φ' st' Q) : JX P E ops S Φ st Q := by subst hS hΦ hst; exact h
theorem QX.conv {Q : Exit → St → Prop} {st st' : St} (h : st = st') (k : Q .normal st') : Q .normal st := h ▸ k
end
end Go.Proofs.Ytkiankpmkglhcaa.J

/- Walks: the page sets a part of a value by a path. -/
namespace Go.Proofs.Ytkiankpmkglhcaa.J
open Go Go.RowKit
set_option linter.unusedVariables false
set_option linter.unusedSimpArgs false
set_option maxRecDepth 10000
set_option maxHeartbeats 4000000
theorem Reown.ord {ok arrI okx oix kids ok3 oi3 ob oa : Own} (h : Reown [kids] [ok3, oi3, ob, oa]) : Reown [ok, arrI, okx, oix, kids] [ok, arrI, ob, oa, ok3, oi3, okx, oix] := by
  refine (Reown.left (c := [ok, arrI, okx, oix]) h).trans ⟨fun y => by simp only [fps_cons, fps_nil, List.count_append, List.count_nil, List.cons_append, List.nil_append]; omega, fun w A h => ?_⟩
  simp only [List.forall_mem_cons, List.cons_append, List.nil_append, List.not_mem_nil, false_implies, implies_true, and_true] at h ⊢
  obtain ⟨q1, q2, q3, q4, q5, q6, q7, q8⟩ := h
  exact ⟨q1, q2, q7, q8, q5, q6, q3, q4⟩
end Go.Proofs.Ytkiankpmkglhcaa.J

/- Walks: the page sets a part; what is alive. -/
namespace Go.Proofs.Ytkiankpmkglhcaa.J
open Go Go.RowKit
set_option linter.unusedVariables false
set_option linter.unusedSimpArgs false
set_option maxRecDepth 10000
set_option maxHeartbeats 4000000
def stB : StT := ⟨true, [98], 0⟩
def vL : V := .mk 4 0 [] [] []
def vR : V := .mk 5 0 [] [] []
def vA : V := .mk 5 0 [] [[98]] [vL]
theorem vL_wf : vL.wf := .mk (by decide) (by decide) (by decide) (by decide) (by decide) (fun _ h => by cases h) (fun _ h => by cases h)
theorem vR_wf : vR.wf := .mk (by decide) (by decide) (by decide) (by decide) (by decide) (fun _ h => by cases h) (fun _ h => by cases h)
theorem vA_wf : vA.wf := .mk (by decide) (by decide) (by decide) (by decide) (by decide) (fun s h => by simp at h; subst h; decide) (fun x h => by simp at h; subst h; exact vL_wf)
theorem stB_wf : [stB].length * 32 ≤ reach ∧ ∀ s ∈ [stB], s.wf := ⟨by decide, fun s h => by simp at h; subst h; exact ⟨by decide, by decide⟩⟩
theorem oset : setAV vR [stB] vL = .tup [.agg (vA.cs true), .c (.int .i64 0)] := setAV_of (by decide)
theorem oget : getAV vA [stB] = .tup [.agg (vL.cs true), .c (.int .i64 0)] := getAV_of (by decide)
theorem num02_ok (n : Int) : Fn Try.prog 23 [.c (.int .i64 n)] (.c (.int .i64 n)) := by
  refine AC.of_J Try.func23 rfl Try.ntmps23 rfl fun w0 A0 => ?_
  refine J.seq ?_
  refine J.region_lit ?_
  refine JL.q rfl rfl rfl (QW.assign .const) ?_
  refine JL.nil ?_
  refine thenQ.n ?_
  refine J.seq ?_
  refine J.region_lit ?_
  refine JL.q rfl rfl rfl (QW.move (.tmp rfl)) ?_
  refine JL.q rfl rfl rfl (QW.assign (.tmp rfl)) ?_
  refine JL.nil ?_
  refine thenQ.n ?_
  refine J.ret ?_
  exact ⟨_, selP [] _, _, RetEv.one rfl (REv.tmp rfl (.refl _)), rfl, sel_perm [] _, ⟨rfl, rfl⟩⟩
theorem alive02_ok : Fn Try.prog 27 [] (.c (.bool true)) := by
  refine AC.of_J Try.func27 rfl Try.ntmps27 rfl fun w0 A0 => ?_
  refine J.seq ?_
  refine J.region_lit ?_
  refine JL.q rfl rfl rfl (QW.assign .const) ?_
  refine JL.nil ?_
  refine thenQ.n ?_
  refine J.seq ?_
  refine J.region_lit ?_
  refine JL.q rfl rfl rfl (QW.build (idx := [0]) pl26 z26 rfl (.cons .const .nil) rfl rfl rfl rfl) ?_
  refine JL.q rfl rfl rfl (QW.build (idx := [0, 1]) pl48 z48 rfl (.cons .const (.cons .const .nil)) rfl rfl rfl rfl) ?_
  refine JL.q rfl rfl rfl (QW.buildSlice (idx := [0]) (xs := [stB.cs]) sl39 el48 z48 rfl (.cons (.tmp rfl) .nil) rfl rfl rfl rfl rfl rfl rfl rfl rfl) ?_
  refine JL.q rfl rfl rfl (QW.build (idx := [0]) pl26 z26 rfl (.cons .const .nil) rfl rfl rfl rfl) ?_
  refine JL.q rfl rfl rfl (QW.call gofn30 (.cons (Ev.le (.tmp rfl) (.aggL (.cons (.refl _) (.cons (.refl _) (.cons (.refl _) (.cons (.nil true false _) (.cons (.nil true false _) .nil))))))) (.cons (.tmp rfl) (.cons (Ev.le (.tmp rfl) (.aggL (.cons (.refl _) (.cons (.refl _) (.cons (.refl _) (.cons (.nil true false _) (.cons (.nil true false _) .nil))))))) .nil))) (oset ▸ set_ok (fr := true) (fr2 := true) (c2 := true) (v := vR) (x := vL) (p := [stB]) Vc.self Vc.self vR_wf vL_wf stB_wf)) ?_
  refine JL.q rfl rfl rfl (QW.move (.tmp rfl)) ?_
  refine JL.q rfl rfl rfl (QW.extract (.tmp rfl) rfl) ?_
  refine JL.q rfl rfl rfl (QW.extract (.tmp rfl) rfl) ?_
  refine JL.alloc z26 rfl rfl fun b1 => ?_
  first | refine JL.store_boxF 0 ty26 (.tmp rfl) rfl (.tmp rfl) (by first | rfl | assumption) (rfl) (rfl) rfl ?_ | refine JL.store_boxF 0 ty26 (.tmp rfl) rfl (.tmp rfl) (by first | rfl | assumption) (rfl) (V.cs_length _ _) rfl ?_ | refine JL.store_boxF 0 ty26 (.tmp rfl) rfl (.tmp rfl) (by first | rfl | assumption) (V.cs_length _ _) (rfl) rfl ?_ | refine JL.store_boxF 0 ty26 (.tmp rfl) rfl (.tmp rfl) (by first | rfl | assumption) (V.cs_length _ _) (V.cs_length _ _) rfl ?_ | refine JL.store_box 0 ty26 (.tmp rfl) rfl (.tmp rfl) (by first | rfl | assumption) rfl rfl rfl rfl ?_ | refine JL.store_box 0 ty26 (.tmp rfl) rfl (.tmp rfl) (by first | rfl | assumption) (V.cs_length _ _) rfl rfl rfl ?_
  refine JL.q rfl rfl rfl (QW.assign (.tmp rfl)) ?_
  refine JL.nil ?_
  refine thenQ.n ?_
  refine J.seq ?_
  refine J.region_lit ?_
  refine JL.q rfl rfl rfl (by first | exact QW.load_box 0 ty26 (.tmp rfl) rfl rfl rfl | exact QW.load_box 0 ty26 (.tmp rfl) rfl (take_at (V.cs_length _ _) rfl) (V.cs_length _ _)) ?_
  refine JL.q rfl rfl rfl (QW.build (idx := [0, 1]) pl48 z48 rfl (.cons .const (.cons .const .nil)) rfl rfl rfl rfl) ?_
  refine JL.q rfl rfl rfl (QW.buildSlice (idx := [0]) (xs := [stB.cs]) sl39 el48 z48 rfl (.cons (.tmp rfl) .nil) rfl rfl rfl rfl rfl rfl rfl rfl rfl) ?_
  refine JL.q rfl rfl rfl (QW.call gofn28 (.cons (.tmp rfl) (.cons (.tmp rfl) .nil)) (oget ▸ get_ok (fr := true) (fr2 := true) (c2 := true) (v := vA) (p := [stB]) Vc.self vA_wf stB_wf)) ?_
  refine JL.q rfl rfl rfl (QW.move (.tmp rfl)) ?_
  refine JL.q rfl rfl rfl (QW.extract (.tmp rfl) rfl) ?_
  refine JL.q rfl rfl rfl (QW.extract (.tmp rfl) rfl) ?_
  refine JL.alloc z26 rfl rfl fun b3 => ?_
  first | refine JL.store_boxF 0 ty26 (.tmp rfl) rfl (.tmp rfl) (by first | rfl | assumption) (rfl) (rfl) rfl ?_ | refine JL.store_boxF 0 ty26 (.tmp rfl) rfl (.tmp rfl) (by first | rfl | assumption) (rfl) (V.cs_length _ _) rfl ?_ | refine JL.store_boxF 0 ty26 (.tmp rfl) rfl (.tmp rfl) (by first | rfl | assumption) (V.cs_length _ _) (rfl) rfl ?_ | refine JL.store_boxF 0 ty26 (.tmp rfl) rfl (.tmp rfl) (by first | rfl | assumption) (V.cs_length _ _) (V.cs_length _ _) rfl ?_ | refine JL.store_box 0 ty26 (.tmp rfl) rfl (.tmp rfl) (by first | rfl | assumption) rfl rfl rfl rfl ?_ | refine JL.store_box 0 ty26 (.tmp rfl) rfl (.tmp rfl) (by first | rfl | assumption) (V.cs_length _ _) rfl rfl rfl ?_
  refine JL.q rfl rfl rfl (QW.assign (.tmp rfl)) ?_
  refine JL.nil ?_
  refine thenQ.n ?_
  refine J.seq ?_
  refine J.region_lit ?_
  refine JL.q rfl rfl rfl (QW.move (.tmp rfl)) ?_
  refine JL.q rfl rfl rfl (QW.call gofn23 (.cons (.tmp rfl) .nil) (num02_ok _)) ?_
  refine JL.q rfl rfl rfl (QW.move (.tmp rfl)) ?_
  refine JL.q rfl rfl rfl (QW.call gofn23 (.cons (.tmp rfl) .nil) (num02_ok _)) ?_
  refine JL.q rfl rfl rfl (QW.add (.tmp rfl) (.tmp rfl) (by first | exact w64n (by first | rfl | omega | (simp; done)) (by omega) | exact w64 (by omega) | rfl)) ?_
  refine JL.q rfl rfl rfl (QW.eql (.tmp rfl) .const) ?_
  refine JL.q rfl rfl rfl (QW.move (.tmp rfl)) ?_
  refine JL.g rfl rfl rfl rfl rfl (fun hg => (QW.field_ptr fo26_0 (.tmp rfl) rfl)) ?_
  refine JL.g rfl rfl rfl rfl rfl (fun hg => (QW.load_box1 0 ty3 (.when rfl hg) rfl rfl)) ?_
  refine JL.g rfl rfl rfl rfl rfl (fun hg => (QW.eql (.when rfl hg) .const)) ?_
  refine JL.q rfl rfl rfl (QW.pick_and (.tmp rfl) (.tmp rfl)) ?_
  refine JL.q rfl rfl rfl (QW.move (.tmp rfl)) ?_
  refine JL.g rfl rfl rfl rfl rfl (fun hg => (QW.field_ptr fo26_3 (.tmp rfl) rfl)) ?_
  refine JL.g rfl rfl rfl rfl rfl (fun hg => (QW.load_box1 1 ty23 (.when rfl hg) rfl rfl)) ?_
  refine JL.g rfl rfl rfl rfl rfl (fun hg => (by first | exact QW.len_slE sl23 (.when rfl hg) (keysAV_length _) | exact QW.len_slE sl23 (.when rfl hg) (V.css_length _ _) | exact QW.len_slE sl23 (.when rfl hg) (StT.css_length _) | exact QW.len_sl sl23 (.when rfl hg) | exact QW.len_nil sl23 (.when rfl hg))) ?_
  refine JL.g rfl rfl rfl rfl rfl (fun hg => (QW.eql (.when rfl hg) .const)) ?_
  refine JL.q rfl rfl rfl (QW.pick_and (.tmp rfl) (.tmp rfl)) ?_
  refine JL.q rfl rfl rfl (QW.assign (.tmp rfl)) ?_
  refine JL.nil ?_
  refine thenQ.n ?_
  refine J.ret ?_
  exact ⟨_, selP [.k, .k] _, _, RetEv.one rfl (REv.tmp rfl (.refl _)), rfl, sel_perm [.k, .k] _, ⟨rfl, rfl⟩⟩
end Go.Proofs.Ytkiankpmkglhcaa.J

/- Walks: ValueTells, ValueParts, ValueOwn. -/
namespace Go.Proofs.Ytkiankpmkglhcaa.J
open Go Go.RowKit
set_option linter.unusedVariables false
set_option linter.unusedSimpArgs false
set_option maxRecDepth 10000
set_option maxHeartbeats 4000000
end Go.Proofs.Ytkiankpmkglhcaa.J

/- Walks: the order of numbers, for the seats that reach no more of floats. -/
namespace Go.Proofs.Ytkiankpmkglhcaa.J
open Go Go.RowKit
set_option linter.unusedVariables false
set_option linter.unusedSimpArgs false
set_option maxRecDepth 10000
set_option maxHeartbeats 4000000
theorem order_ok (b : Nat) (hb : b < 2 ^ 64) : Fn Try.prog 114 [.c (.int .u64 (b : Int))] (.c (.int .u64 (orderN b : Int))) := by
  refine AC.of_J Try.func114 rfl Try.ntmps114 rfl fun w0 A0 => ?_
  refine J.seq ?_
  refine J.region_lit ?_
  refine JL.q rfl rfl rfl (QW.assign .const) ?_
  refine JL.nil ?_
  refine thenQ.n ?_
  refine J.seq ?_
  refine J.seq ?_
  refine J.region_lit ?_
  refine JL.q rfl rfl rfl (QW.move (.tmp rfl)) ?_
  refine JL.q rfl rfl rfl (QW.ext (extFrom _) (.tmp rfl)) ?_
  refine JL.q rfl rfl rfl (QW.assign (.tmp rfl)) ?_
  refine JL.nil ?_
  refine thenQ.n ?_
  refine J.seq ?_
  refine J.region_lit ?_
  refine JL.q rfl rfl rfl (QW.move (.tmp rfl)) ?_
  refine JL.q rfl rfl rfl (QW.move (.tmp rfl)) ?_
  refine JL.q rfl rfl rfl (QW.neq_f (.tmp rfl) (.tmp rfl)) ?_
  refine JL.nil ?_
  refine thenQ.n ?_
  refine J.cond (.tmp rfl) (fun c1 => ?_) (fun c1 => ?_)
  ·
    rw [fneq_self] at c1
    refine J.seq ?_
    refine J.region_lit ?_
    refine JL.q rfl rfl rfl (QW.assign .const) ?_
    refine JL.nil ?_
    refine thenQ.n ?_
    refine J.ret ?_
    refine thenQ.r ?_
    exact ⟨_, [], _, RetEv.one rfl (REv.tmp rfl (.refl _)), rfl, List.Perm.refl _, by simp [orderN, c1], rfl⟩
  ·
    rw [fneq_self] at c1
    refine J.skip ?_
    refine thenQ.n ?_
    refine J.seq ?_
    refine J.region_lit ?_
    refine JL.q rfl rfl rfl (QW.move (.tmp rfl)) ?_
    refine JL.q rfl rfl rfl (QW.move (.tmp rfl)) ?_
    refine JL.q rfl rfl rfl (QW.conv_int us22 iu2 (.tmp rfl) rfl) ?_
    refine JL.q rfl rfl rfl (QW.shr (.tmp rfl) .const (by first | decide | omega) rfl) ?_
    refine JL.q rfl rfl rfl (QW.conv_int us2 iu22 (.tmp rfl) rfl) ?_
    refine JL.q rfl rfl rfl (QW.or (.tmp rfl) .const rfl) ?_
    refine JL.q rfl rfl rfl (QW.xor (.tmp rfl) (.tmp rfl) rfl) ?_
    refine JL.q rfl rfl rfl (QW.assign (.tmp rfl)) ?_
    refine JL.nil ?_
    refine thenQ.n ?_
    refine J.ret ?_
    exact ⟨_, [], _, RetEv.one rfl (REv.tmp rfl (.refl _)), rfl, List.Perm.refl _, by rw [← order_bits hb c1]; rfl, rfl⟩
end Go.Proofs.Ytkiankpmkglhcaa.J

/- Walks: the page's pushing and taking; a queue in memory of its own; two queues alike. -/
namespace Go.Proofs.Ytkiankpmkglhcaa.J
open Go Go.RowKit
set_option linter.unusedVariables false
set_option linter.unusedSimpArgs false
set_option maxRecDepth 10000
set_option maxHeartbeats 4000000
theorem EvT.wfs.one {e : EvT} (h : e.wf) : EvT.wfs [e] := ⟨by simp only [List.length_singleton]; decide, fun x hx => by simp only [List.mem_singleton] at hx; subst hx; exact h⟩
end Go.Proofs.Ytkiankpmkglhcaa.J

/- Walks: two queues alike; the page's example; QueueNew. -/
namespace Go.Proofs.Ytkiankpmkglhcaa.J
open Go Go.RowKit
set_option linter.unusedVariables false
set_option linter.unusedSimpArgs false
set_option maxRecDepth 10000
set_option maxHeartbeats 4000000
def QT.new (n : Int) : QT := if n < 1 ∨ 64 < n then .nil else ⟨n, 0, []⟩
end Go.Proofs.Ytkiankpmkglhcaa.J

/- Walks: QueueTells, QueueRefuses. -/
namespace Go.Proofs.Ytkiankpmkglhcaa.J
open Go Go.RowKit
set_option linter.unusedVariables false
set_option linter.unusedSimpArgs false
set_option maxRecDepth 10000
set_option maxHeartbeats 4000000
theorem QT.cs_length (fr : Bool) : ∀ q : QT, (q.cs fr).length = 3
  | ⟨_, _, _⟩ => rfl
end Go.Proofs.Ytkiankpmkglhcaa.J

/- Walks: QueueOrder. -/
namespace Go.Proofs.Ytkiankpmkglhcaa.J
open Go Go.RowKit
set_option linter.unusedVariables false
set_option linter.unusedSimpArgs false
set_option maxRecDepth 10000
set_option maxHeartbeats 4000000
def eI64 : ETy := ⟨1, 8⟩
def intsAV (l : List Int) : List (List AV) := l.map fun n => [.c (.int .i64 n)]
theorem intsAV_length (l : List Int) : (intsAV l).length = l.length := by simp [intsAV]
theorem intsAV_getE {l : List Int} {i : Nat} (h : i < l.length) : (intsAV l)[i]? = some [.c (.int .i64 l[i])] := by simp [intsAV, h]
theorem Reown.mask (ms : List Cd) (own : List Own) {own' : List Own} (h : selP ms own = own') : Reown own own' := by
  subst h
  exact (Reown.perm ((sel_perm ms own).trans List.perm_append_comm)).trans (Reown.drop _ _)
/-- What waits behind k of the events I that were pushed. -/
def QT.at (lim : Int) (I : List EvT) (k : Nat) : QT := ⟨lim, (I.length : Int), I.drop k⟩
mutual
theorem V.chk_rng : ∀ (v : V) (lev n : Int), (v.chk lev n).1 = 0 ∨ (v.chk lev n).1 = 3 ∨ (v.chk lev n).1 = 9 ∨ (v.chk lev n).1 = 10
  | .mk k b t ks is, lev, n => by
    unfold V.chk
    split
    · simp
    · split
      · simp
      · split
        · simp
        · exact V.chks_rng is lev (n + 1)
theorem V.chks_rng : ∀ (l : List V) (lev n : Int), (V.chks l lev n).1 = 0 ∨ (V.chks l lev n).1 = 3 ∨ (V.chks l lev n).1 = 9 ∨ (V.chks l lev n).1 = 10
  | [], lev, n => by simp [V.chks]
  | x :: r, lev, n => by
    unfold V.chks
    split
    · exact V.chk_rng x _ _
    · exact V.chks_rng r _ _
end
theorem V.err_rng (v : V) : v.err = 0 ∨ v.err = 3 ∨ v.err = 9 ∨ v.err = 10 := V.chk_rng v 1 0
theorem evErr_rng (e : EvT) : evErr e = 0 ∨ evErr e = 3 ∨ evErr e = 9 ∨ evErr e = 10 ∨ evErr e = 31 := by
  unfold evErr
  split
  · have := V.err_rng e.arg; omega
  · simp
structure QAt (lim : Int) (I : List EvT) (k n : Nat) : Prop where
  hk : k ≤ I.length
  hn : I.length ≤ n
  ok : (QT.at lim I k).ok = true
  wf : EvT.wfs I
theorem QAt.start {lim : Int} (h : 1 ≤ lim ∧ lim ≤ 9) : QAt lim [] 0 0 := ⟨by simp, by simp, by unfold QT.at QT.ok; simp; omega, EvT.wfs_nil⟩
theorem QAt.push {lim : Int} {I : List EvT} {k n : Nat} {e : EvT} (h : QAt lim I k n) (he : e.wf) (hn : n < 40) : ∃ q m f, (QT.at lim I k).push e = (q, m, f) ∧ (f = 0 → q = QT.at lim (I ++ [e]) k ∧ m = (I.length : Int) + 1 ∧ QAt lim (I ++ [e]) k (n + 1)) ∧ (f = 51 → (I.length : Int) - k = lim) := by
  obtain ⟨h1, h2, h3, h4, h5, h6⟩ := QT.ok_inv h.ok
  have hh := h.hk
  have hh2 := h.hn
  have hok := h.ok
  simp only [QT.at, List.length_drop] at h1 h2 h3 h4 h5 h6
  by_cases he0 : evErr e = 0
  · by_cases hfl : ((QT.at lim I k).events.length : Int) = (QT.at lim I k).limit ∨ (QT.at lim I k).last = 1099511627776
    · refine ⟨.nil, 0, 51, by unfold QT.push; rw [if_neg (by simp [hok]), if_neg (by simp [he0]), if_pos hfl], (fun hf => absurd hf (by decide)), fun _ => ?_⟩
      simp only [QT.at, List.length_drop] at hfl
      omega
    · have hq : (⟨(QT.at lim I k).limit, (QT.at lim I k).last + 1, (QT.at lim I k).events ++ [e]⟩ : QT) = QT.at lim (I ++ [e]) k := by
        unfold QT.at
        rw [List.drop_append_of_le_length hh]
        simp
      refine ⟨⟨(QT.at lim I k).limit, (QT.at lim I k).last + 1, (QT.at lim I k).events ++ [e]⟩, (QT.at lim I k).last + 1, 0, by unfold QT.push; rw [if_neg (by simp [hok]), if_neg (by simp [he0]), if_neg hfl], (fun _ => ⟨hq, rfl, ⟨by simp; omega, by simp; omega, ?_, h.wf.snoc he (by omega)⟩⟩), fun hf => absurd hf (by decide)⟩
      rw [← hq]
      simp only [QT.at, List.length_drop] at hfl
      unfold QT.ok QT.at
      simp only [List.length_append, List.length_drop, List.length_singleton, List.all_append, h6, List.all_cons, List.all_nil, Bool.and_true, Bool.true_and, evOk_iff, Bool.and_eq_true, decide_eq_true_eq]
      refine ⟨⟨⟨⟨⟨h1, h2⟩, ?_⟩, ?_⟩, ?_⟩, by rw [he0]; rfl⟩
      · push_cast; omega
      · push_cast; omega
      · omega
  · refine ⟨.nil, 0, evErr e, by unfold QT.push; rw [if_neg (by simp [hok]), if_pos he0], (fun hf => absurd hf he0), fun hf => ?_⟩
    have := evErr_rng e
    omega
theorem QAt.take {lim : Int} {I : List EvT} {k n : Nat} (h : QAt lim I k n) (c : Int) (hc : 0 ≤ c) : ∃ m : Nat, (m : Int) = min c ((I.length : Int) - k) ∧ (QT.at lim I k).take c = (QT.at lim I (k + m), (I.drop k).take m, (if 0 < m then (k : Int) + 1 else 0), 0) ∧ QAt lim I (k + m) n := by
  obtain ⟨h1, h2, h3, h4, h5, h6⟩ := QT.ok_inv h.ok
  have hh := h.hk
  have hh2 := h.hn
  have hcut : (QT.cut (QT.at lim I k) c : Int) = min c ((I.length : Int) - k) := by unfold QT.cut QT.at; simp only [List.length_drop]; omega
  refine ⟨QT.cut (QT.at lim I k) c, hcut, ?_, ?_⟩
  · generalize hm : QT.cut (QT.at lim I k) c = m at *
    unfold QT.take
    rw [if_neg (by simp [h.ok]), if_neg (by omega), hm]
    unfold QT.at
    simp only [List.drop_drop, List.length_drop, Prod.mk.injEq, true_and, and_true]
    split
    · omega
    · rfl
  · generalize hm : QT.cut (QT.at lim I k) c = m at *
    simp only [QT.at, List.length_drop] at h1 h2 h3 h4 h5 h6
    refine ⟨by omega, hh2, ?_, h.wf⟩
    unfold QT.ok QT.at
    simp only [List.length_drop, Bool.and_eq_true, decide_eq_true_eq]
    refine ⟨⟨⟨⟨⟨h1, h2⟩, by omega⟩, by omega⟩, by omega⟩, ?_⟩
    rw [List.all_eq_true] at h6 ⊢
    intro x hx
    rw [← List.drop_drop] at hx
    exact h6 x (List.mem_of_mem_drop hx)
end Go.Proofs.Ytkiankpmkglhcaa.J

/- Walks: orders of numbers, texts, lists. -/
namespace Go.Proofs.Ytkiankpmkglhcaa.J
open Go Go.RowKit
set_option linter.unusedVariables false
set_option linter.unusedSimpArgs false
set_option maxRecDepth 10000
set_option maxHeartbeats 4000000
theorem cmpI_ok (a b : Int) : Fn Try.prog 102 [.c (.int .i64 a), .c (.int .i64 b)] (.c (.int .i64 (cmpI a b))) := cmpInt_ok a b
theorem cmpK_drop {a b : List Str} {k : Nat} (ha : k < a.length) (hb : k < b.length) : cmpK (a.drop k) (b.drop k) = orI (cmpS a[k] b[k]) (cmpK (a.drop (k + 1)) (b.drop (k + 1))) := by
  rw [List.drop_eq_getElem_cons ha, List.drop_eq_getElem_cons hb, cmpK]
theorem cmpK_gt {a b : List Str} {k : Nat} (ha : k < a.length) (hb : b.length ≤ k) : cmpK (a.drop k) (b.drop k) = 1 := by
  rw [List.drop_eq_getElem_cons ha, List.drop_of_length_le hb, cmpK]
theorem cmpK_lt {a b : List Str} {k : Nat} (ha : a.length ≤ k) (hb : k < b.length) : cmpK (a.drop k) (b.drop k) = -1 := by
  rw [List.drop_eq_getElem_cons hb, List.drop_of_length_le ha, cmpK]
theorem cmpK_eq {a b : List Str} {k : Nat} (ha : a.length ≤ k) (hb : b.length ≤ k) : cmpK (a.drop k) (b.drop k) = 0 := by
  rw [List.drop_of_length_le hb, List.drop_of_length_le ha, cmpK]
theorem ords_drop {a b : List V} {k : Nat} (ha : k < a.length) (hb : k < b.length) : V.ords (a.drop k) (b.drop k) = orI (a[k].ord b[k]) (V.ords (a.drop (k + 1)) (b.drop (k + 1))) := by
  rw [List.drop_eq_getElem_cons ha, List.drop_eq_getElem_cons hb, V.ords]
theorem ords_gt {a b : List V} {k : Nat} (ha : k < a.length) (hb : b.length ≤ k) : V.ords (a.drop k) (b.drop k) = 1 := by
  rw [List.drop_eq_getElem_cons ha, List.drop_of_length_le hb, V.ords]
theorem ords_lt {a b : List V} {k : Nat} (ha : a.length ≤ k) (hb : k < b.length) : V.ords (a.drop k) (b.drop k) = -1 := by
  rw [List.drop_eq_getElem_cons hb, List.drop_of_length_le ha, V.ords]
theorem ords_eq {a b : List V} {k : Nat} (ha : a.length ≤ k) (hb : b.length ≤ k) : V.ords (a.drop k) (b.drop k) = 0 := by
  rw [List.drop_of_length_le hb, List.drop_of_length_le ha, V.ords]
theorem orI_n {a b : Int} (h : a ≠ 0) : orI a b = a := if_pos h
theorem orI_z {b : Int} : orI 0 b = b := if_neg (fun h => h rfl)
def orL : List Int → Int
  | [] => 0
  | x :: r => orI x (orL r)
theorem orL_drop {l : List Int} {k : Nat} (h : k < l.length) : orL (l.drop k) = orI l[k] (orL (l.drop (k + 1))) := by
  rw [List.drop_eq_getElem_cons h, orL]
theorem orL_end {l : List Int} {k : Nat} (h : l.length ≤ k) : orL (l.drop k) = 0 := by rw [List.drop_of_length_le h, orL]
theorem orL_one (a : Int) : orL [a] = a := by simp only [orL, orI]; split <;> omega
theorem nanU_ok (n : Int) : Fn Try.prog 139 [.c (.int .u64 n)] (.c (.bool false)) := by
  refine AC.of_J Try.func139 rfl Try.ntmps139 rfl fun w0 A0 => ?_
  refine J.seq ?_
  refine J.region_lit ?_
  refine JL.q rfl rfl rfl (QW.assign .const) ?_
  refine JL.nil ?_
  refine thenQ.n ?_
  refine J.seq ?_
  refine J.region_lit ?_
  refine JL.q rfl rfl rfl (QW.move (.tmp rfl)) ?_
  refine JL.q rfl rfl rfl (QW.move (.tmp rfl)) ?_
  refine JL.q rfl rfl rfl (QW.neq (.tmp rfl) (.tmp rfl)) ?_
  refine JL.q rfl rfl rfl (QW.assign (.tmp rfl)) ?_
  refine JL.nil ?_
  refine thenQ.n ?_
  refine J.ret ?_
  exact ⟨_, selP [] _, _, RetEv.one rfl (REv.tmp rfl (.refl _)), rfl, sel_perm [] _, ⟨ret_b (by simp), rfl⟩⟩
theorem cmpU_ok (a b : Int) : Fn Try.prog 116 [.c (.int .u64 a), .c (.int .u64 b)] (.c (.int .i64 (cmpI a b))) := by
  refine AC.of_J Try.func116 rfl Try.ntmps116 rfl fun w0 A0 => ?_
  refine J.seq ?_
  refine J.region_lit ?_
  refine JL.q rfl rfl rfl (QW.assign .const) ?_
  refine JL.nil ?_
  refine thenQ.n ?_
  refine J.seq ?_
  refine J.region_lit ?_
  refine JL.q rfl rfl rfl (QW.move (.tmp rfl)) ?_
  refine JL.q rfl rfl rfl (QW.call gofn139 (.cons (.tmp rfl) .nil) (nanU_ok _)) ?_
  refine JL.q rfl rfl rfl (QW.assign (.tmp rfl)) ?_
  refine JL.nil ?_
  refine thenQ.n ?_
  refine J.seq ?_
  refine J.region_lit ?_
  refine JL.q rfl rfl rfl (QW.move (.tmp rfl)) ?_
  refine JL.q rfl rfl rfl (QW.call gofn139 (.cons (.tmp rfl) .nil) (nanU_ok _)) ?_
  refine JL.q rfl rfl rfl (QW.assign (.tmp rfl)) ?_
  refine JL.nil ?_
  refine thenQ.n ?_
  refine J.seq ?_
  refine J.seq ?_
  refine J.region_lit ?_
  refine JL.q rfl rfl rfl (QW.move (.tmp rfl)) ?_
  refine JL.nil ?_
  refine thenQ.n ?_
  refine J.cond (.tmp rfl) (fun c1 => absurd c1 (by simp)) (fun c1 => ?_)
  refine J.skip ?_
  refine thenQ.n ?_
  refine J.seq ?_
  refine J.seq ?_
  refine J.region_lit ?_
  refine JL.q rfl rfl rfl (QW.move (.tmp rfl)) ?_
  refine JL.nil ?_
  refine thenQ.n ?_
  refine J.cond (.tmp rfl) (fun c2 => absurd c2 (by simp)) (fun c2 => ?_)
  refine J.skip ?_
  refine thenQ.n ?_
  refine J.seq ?_
  refine J.seq ?_
  refine J.region_lit ?_
  refine JL.q rfl rfl rfl (QW.move (.tmp rfl)) ?_
  refine JL.q rfl rfl rfl (QW.move (.tmp rfl)) ?_
  refine JL.q rfl rfl rfl (QW.lss (.tmp rfl) (.tmp rfl)) ?_
  refine JL.nil ?_
  refine thenQ.n ?_
  refine J.cond (.tmp rfl) (fun c3 => ?_) (fun c3 => ?_)
  · skip
    simp at c3
    refine J.seq ?_
    refine J.region_lit ?_
    refine JL.q rfl rfl rfl (QW.assign .const) ?_
    refine JL.nil ?_
    refine thenQ.n ?_
    refine J.ret ?_
    refine thenQ.r ?_
    exact ⟨_, selP [] _, _, RetEv.one rfl (REv.tmp rfl (.refl _)), rfl, sel_perm [] _, ⟨by rw [show cmpI a b = -1 from if_pos c3], rfl⟩⟩
  · skip
    simp at c3
    refine J.skip ?_
    refine thenQ.n ?_
    refine J.seq ?_
    refine J.seq ?_
    refine J.region_lit ?_
    refine JL.q rfl rfl rfl (QW.move (.tmp rfl)) ?_
    refine JL.q rfl rfl rfl (QW.move (.tmp rfl)) ?_
    refine JL.q rfl rfl rfl (QW.gtr (.tmp rfl) (.tmp rfl)) ?_
    refine JL.nil ?_
    refine thenQ.n ?_
    refine J.cond (.tmp rfl) (fun c4 => ?_) (fun c4 => ?_)
    · skip
      simp at c4
      refine J.seq ?_
      refine J.region_lit ?_
      refine JL.q rfl rfl rfl (QW.assign .const) ?_
      refine JL.nil ?_
      refine thenQ.n ?_
      refine J.ret ?_
      refine thenQ.r ?_
      exact ⟨_, selP [] _, _, RetEv.one rfl (REv.tmp rfl (.refl _)), rfl, sel_perm [] _, ⟨by rw [show cmpI a b = 1 by unfold cmpI; rw [if_neg (by omega), if_pos (by omega)]], rfl⟩⟩
    · skip
      simp at c4
      refine J.skip ?_
      refine thenQ.n ?_
      refine J.seq ?_
      refine J.region_lit ?_
      refine JL.q rfl rfl rfl (QW.assign .const) ?_
      refine JL.nil ?_
      refine thenQ.n ?_
      refine J.ret ?_
      exact ⟨_, selP [] _, _, RetEv.one rfl (REv.tmp rfl (.refl _)), rfl, sel_perm [] _, ⟨by rw [show cmpI a b = 0 by unfold cmpI; rw [if_neg (by omega), if_neg (by omega)]], rfl⟩⟩
theorem cmpStr_ok (a b : Str) : Fn Try.prog 117 [.c (str a), .c (str b)] (.c (.int .i64 (cmpS a b))) := by
  refine AC.of_J Try.func117 rfl Try.ntmps117 rfl fun w0 A0 => ?_
  refine J.seq ?_
  refine J.region_lit ?_
  refine JL.q rfl rfl rfl (QW.assign .const) ?_
  refine JL.nil ?_
  refine thenQ.n ?_
  refine J.seq ?_
  refine J.region_lit ?_
  refine JL.q rfl rfl rfl (QW.move (.tmp rfl)) ?_
  refine JL.q rfl rfl rfl (QW.call gofn140 (.cons (.tmp rfl) .nil) (cnanStr_ok _)) ?_
  refine JL.q rfl rfl rfl (QW.assign (.tmp rfl)) ?_
  refine JL.nil ?_
  refine thenQ.n ?_
  refine J.seq ?_
  refine J.region_lit ?_
  refine JL.q rfl rfl rfl (QW.move (.tmp rfl)) ?_
  refine JL.q rfl rfl rfl (QW.call gofn140 (.cons (.tmp rfl) .nil) (cnanStr_ok _)) ?_
  refine JL.q rfl rfl rfl (QW.assign (.tmp rfl)) ?_
  refine JL.nil ?_
  refine thenQ.n ?_
  refine J.seq ?_
  refine J.seq ?_
  refine J.region_lit ?_
  refine JL.q rfl rfl rfl (QW.move (.tmp rfl)) ?_
  refine JL.nil ?_
  refine thenQ.n ?_
  refine J.cond (.tmp rfl) (fun c1 => absurd c1 (by simp)) (fun c1 => ?_)
  refine J.skip ?_
  refine thenQ.n ?_
  refine J.seq ?_
  refine J.seq ?_
  refine J.region_lit ?_
  refine JL.q rfl rfl rfl (QW.move (.tmp rfl)) ?_
  refine JL.nil ?_
  refine thenQ.n ?_
  refine J.cond (.tmp rfl) (fun c2 => absurd c2 (by simp)) (fun c2 => ?_)
  refine J.skip ?_
  refine thenQ.n ?_
  refine J.seq ?_
  refine J.seq ?_
  refine J.region_lit ?_
  refine JL.q rfl rfl rfl (QW.move (.tmp rfl)) ?_
  refine JL.q rfl rfl rfl (QW.move (.tmp rfl)) ?_
  refine JL.q rfl rfl rfl (QW.lss_s (.tmp rfl) (.tmp rfl)) ?_
  refine JL.nil ?_
  refine thenQ.n ?_
  refine J.cond (.tmp rfl) (fun c3 => ?_) (fun c3 => ?_)
  · skip
    refine J.seq ?_
    refine J.region_lit ?_
    refine JL.q rfl rfl rfl (QW.assign .const) ?_
    refine JL.nil ?_
    refine thenQ.n ?_
    refine J.ret ?_
    refine thenQ.r ?_
    exact ⟨_, selP [] _, _, RetEv.one rfl (REv.tmp rfl (.refl _)), rfl, sel_perm [] _, ⟨by simp [cmpS, c3], rfl⟩⟩
  · skip
    refine J.skip ?_
    refine thenQ.n ?_
    refine J.seq ?_
    refine J.seq ?_
    refine J.region_lit ?_
    refine JL.q rfl rfl rfl (QW.move (.tmp rfl)) ?_
    refine JL.q rfl rfl rfl (QW.move (.tmp rfl)) ?_
    refine JL.q rfl rfl rfl (QW.gtr_s (.tmp rfl) (.tmp rfl)) ?_
    refine JL.nil ?_
    refine thenQ.n ?_
    refine J.cond (.tmp rfl) (fun c4 => ?_) (fun c4 => ?_)
    · skip
      refine J.seq ?_
      refine J.region_lit ?_
      refine JL.q rfl rfl rfl (QW.assign .const) ?_
      refine JL.nil ?_
      refine thenQ.n ?_
      refine J.ret ?_
      refine thenQ.r ?_
      exact ⟨_, selP [] _, _, RetEv.one rfl (REv.tmp rfl (.refl _)), rfl, sel_perm [] _, ⟨by rw [gtr_less] at c4; simp [cmpS, c3, c4], rfl⟩⟩
    · skip
      refine J.skip ?_
      refine thenQ.n ?_
      refine J.seq ?_
      refine J.region_lit ?_
      refine JL.q rfl rfl rfl (QW.assign .const) ?_
      refine JL.nil ?_
      refine thenQ.n ?_
      refine J.ret ?_
      exact ⟨_, selP [] _, _, RetEv.one rfl (REv.tmp rfl (.refl _)), rfl, sel_perm [] _, ⟨by rw [gtr_less] at c4; simp [cmpS, c3, c4], rfl⟩⟩
theorem or_ok {fr c : Bool} (l : List Int) (hl : l.length ≤ 1000) : Fn Try.prog 115 [.sl fr c eI64 (intsAV l)] (.c (.int .i64 (orL l))) := by
  refine AC.of_J Try.func115 rfl Try.ntmps115 rfl fun w0 A0 => ?_
  refine J.seq ?_
  refine J.region_lit ?_
  refine JL.q rfl rfl rfl (QW.assign .const) ?_
  refine JL.nil ?_
  refine thenQ.n ?_
  refine J.seq ?_
  refine J.region_lit ?_
  refine JL.q rfl rfl rfl (QW.assign .const) ?_
  refine JL.nil ?_
  refine thenQ.n ?_
  refine J.seq ?_
  refine J.seq ?_
  refine J.region_lit ?_
  refine JL.q rfl rfl rfl (QW.move (.tmp rfl)) ?_
  refine JL.q rfl rfl rfl (by first | exact QW.len_slE sl66 (.tmp rfl) (keysAV_length _) | exact QW.len_slE sl66 (.tmp rfl) (V.css_length _ _) | exact QW.len_slE sl66 (.tmp rfl) (intsAV_length _) | exact QW.len_sl sl66 (.tmp rfl) | exact QW.len_nil sl66 (.tmp rfl)) ?_
  refine JL.q rfl rfl rfl (QW.move .const) ?_
  refine JL.nil ?_
  refine thenQ.n ?_
  refine J.block ?_
  refine J.loopK (ι := Nat) [3, 6, 7] (fun k => [(8, .c (.int .i64 (k : Int)))]) (fun _ oo => oo) (fun k => k ≤ l.length ∧ orL l = orL (l.drop k)) (fun k => l.length - k) 0 (⟨Nat.zero_le _, rfl⟩) (Wk.re (.cons rfl (.refl _) (.cons rfl (.refl _) (.cons rfl (.refl _) (.cons rfl (.refl _) .nil)))) (Reown.refl _) (fun _ h => by first | exact h | simp [h])) ?_
  intro k ⟨hk, hs⟩
  refine J.conv (by (try simp only [id_eq, stepsO, List.map_cons, List.map_nil, valO, nthO, curO, mrg, List.reverse_cons, List.reverse_nil, List.nil_append, List.cons_append, List.append_nil, List.getElem?_cons_zero, List.getElem?_cons_succ, Option.map_some, Option.getD_some, List.set_cons_zero, List.set_cons_succ, AV.cellsOf, splice_zero, splice_succ, Nat.zero_add, Nat.reduceAdd]); rfl) ?_
  refine J.seq ?_
  refine J.region_lit ?_
  refine JL.q rfl rfl rfl (QW.lss (.tmp rfl) (.tmp rfl)) ?_
  refine JL.nil ?_
  refine thenQ.n ?_
  refine J.seq ?_
  refine J.cond (.tmp rfl) (fun c1 => ?_) (fun c1 => ?_)
  · skip
    have hlt : k < l.length := by simpa using c1
    refine J.skip ?_
    refine thenQ.n ?_
    refine J.seq ?_
    refine J.block ?_
    refine J.seq ?_
    refine J.region_lit ?_
    refine JL.q rfl rfl rfl (QW.index_sl sl66 ty3 rfl (.tmp rfl) (.tmp rfl) (by first | rfl | omega | (simp; done)) (by exact intsAV_getE hlt)) ?_
    refine JL.q rfl rfl rfl (QW.load_ref1 ty3 (.tmp rfl) rfl) ?_
    refine JL.q rfl rfl rfl (QW.assign (.tmp rfl)) ?_
    refine JL.nil ?_
    refine thenQ.n ?_
    refine J.seq ?_
    refine J.region_lit ?_
    refine JL.q rfl rfl rfl (QW.move (.tmp rfl)) ?_
    refine JL.q rfl rfl rfl (QW.move (.tmp rfl)) ?_
    refine JL.q rfl rfl rfl (QW.neq (.tmp rfl) (.tmp rfl)) ?_
    refine JL.nil ?_
    refine thenQ.n ?_
    refine J.cond (.tmp rfl) (fun c2 => ?_) (fun c2 => ?_)
    · skip
      have hz : l[k]'hlt ≠ 0 := by simpa using c2
      refine J.seq ?_
      refine J.region_lit ?_
      refine JL.q rfl rfl rfl (QW.move (.tmp rfl)) ?_
      refine JL.q rfl rfl rfl (QW.assign (.tmp rfl)) ?_
      refine JL.nil ?_
      refine thenQ.n ?_
      refine J.ret ?_
      refine blkQ.r ?_
      refine thenQ.r ?_
      refine thenQ.r ?_
      refine blkQ.r ?_
      refine thenQ.r ?_
      exact ⟨_, selP [] _, _, RetEv.one rfl (REv.tmp rfl (.refl _)), rfl, sel_perm [] _, ⟨by rw [hs, orL_drop hlt, orI_n hz], rfl⟩⟩
    · skip
      have hz : l[k]'hlt = 0 := by simpa using c2
      refine J.skip ?_
      refine blkQ.n ?_
      refine thenQ.n ?_
      refine J.region_lit ?_
      refine JL.q rfl rfl rfl (QW.add (.tmp rfl) .const (by first | exact w64n (by first | rfl | omega | (simp; done)) (by omega) | exact w64 (by omega) | rfl)) ?_
      refine JL.q rfl rfl rfl (QW.move (.tmp rfl)) ?_
      refine JL.nil ?_
      refine thenQ.n ?_
      exact ⟨k + 1, ⟨hlt, by rw [hs, orL_drop hlt, hz, orI_z]⟩, by omega, Wk.re (.cons rfl (.refl _) (.cons rfl (.refl _) (.cons rfl (.refl _) (.cons rfl (.refl _) .nil)))) (Reown.refl _) (fun _ h => by first | exact h | simp [h])⟩
  · skip
    have hge : l.length ≤ k := by simpa using c1
    refine J.exit ?_
    refine thenQ.x ?_
    refine thenQ.x ?_
    refine blkQ.hit ?_
    refine thenQ.n ?_
    refine J.seq ?_
    refine J.region_lit ?_
    refine JL.q rfl rfl rfl (QW.move (.tmp rfl)) ?_
    refine JL.q rfl rfl rfl (QW.assign (.tmp rfl)) ?_
    refine JL.nil ?_
    refine thenQ.n ?_
    refine J.ret ?_
    exact ⟨_, selP [] _, _, RetEv.one rfl (REv.tmp rfl (.refl _)), rfl, sel_perm [] _, ⟨by rw [hs, orL_end hge], rfl⟩⟩
theorem cmpKeys_ok {fr fr2 cl cl2 : Bool} (a b : List Str) (ha : a.length ≤ 8796093022208) (hb : b.length ≤ 8796093022208) : Fn Try.prog 118 [.sl fr cl eStr (keysAV a), .sl fr2 cl2 eStr (keysAV b)] (.c (.int .i64 (cmpK a b))) := by
  refine AC.of_J Try.func118 rfl Try.ntmps118 rfl fun w0 A0 => ?_
  refine J.seq ?_
  refine J.region_lit ?_
  refine JL.q rfl rfl rfl (QW.assign .const) ?_
  refine JL.nil ?_
  refine thenQ.n ?_
  refine J.seq ?_
  refine J.seq ?_
  refine J.region_lit ?_
  refine JL.q rfl rfl rfl (QW.move (.tmp rfl)) ?_
  refine JL.q rfl rfl rfl (by first | exact QW.len_slE sl23 (.tmp rfl) (keysAV_length _) | exact QW.len_slE sl23 (.tmp rfl) (V.css_length _ _) | exact QW.len_slE sl23 (.tmp rfl) (intsAV_length _) | exact QW.len_sl sl23 (.tmp rfl) | exact QW.len_nil sl23 (.tmp rfl)) ?_
  refine JL.q rfl rfl rfl (QW.move .const) ?_
  refine JL.nil ?_
  refine thenQ.n ?_
  refine J.block ?_
  refine J.loopK (ι := Nat) [0, 1, 9, 10] (fun k => [(11, .c (.int .i64 (k : Int)))]) (fun _ oo => oo) (fun k => k ≤ a.length ∧ k ≤ b.length ∧ cmpK a b = cmpK (a.drop k) (b.drop k)) (fun k => a.length - k) 0 (⟨Nat.zero_le _, Nat.zero_le _, rfl⟩) (Wk.re (.cons rfl (.refl _) (.cons rfl (.refl _) (.cons rfl (.refl _) (.cons rfl (.refl _) (.cons rfl (.refl _) .nil))))) (Reown.refl _) (fun _ h => by first | exact h | simp [h])) ?_
  intro k ⟨hk, hk2, hs⟩
  refine J.conv (by (try simp only [id_eq, stepsO, List.map_cons, List.map_nil, valO, nthO, curO, mrg, List.reverse_cons, List.reverse_nil, List.nil_append, List.cons_append, List.append_nil, List.getElem?_cons_zero, List.getElem?_cons_succ, Option.map_some, Option.getD_some, List.set_cons_zero, List.set_cons_succ, AV.cellsOf, splice_zero, splice_succ, Nat.zero_add, Nat.reduceAdd]); rfl) ?_
  refine J.seq ?_
  refine J.region_lit ?_
  refine JL.q rfl rfl rfl (QW.lss (.tmp rfl) (.tmp rfl)) ?_
  refine JL.nil ?_
  refine thenQ.n ?_
  refine J.seq ?_
  refine J.cond (.tmp rfl) (fun c1 => ?_) (fun c1 => ?_)
  · skip
    have hlt : k < a.length := by simpa using c1
    refine J.skip ?_
    refine thenQ.n ?_
    refine J.seq ?_
    refine J.block ?_
    refine J.seq ?_
    refine J.region_lit ?_
    refine JL.q rfl rfl rfl (QW.move (.tmp rfl)) ?_
    refine JL.q rfl rfl rfl (QW.index_sl sl23 ty9 rfl (.tmp rfl) (.tmp rfl) (by first | rfl | omega | (simp; done)) (by first | exact keysAV_getE hlt | exact keysAV_getE hlt2)) ?_
    refine JL.q rfl rfl rfl (QW.load_ref1 ty9 (.tmp rfl) rfl) ?_
    refine JL.q rfl rfl rfl (QW.assign (.tmp rfl)) ?_
    refine JL.q rfl rfl rfl (QW.assign (.tmp rfl)) ?_
    refine JL.nil ?_
    refine thenQ.n ?_
    refine J.seq ?_
    refine J.seq ?_
    refine J.region_lit ?_
    refine JL.q rfl rfl rfl (QW.move (.tmp rfl)) ?_
    refine JL.q rfl rfl rfl (QW.move (.tmp rfl)) ?_
    refine JL.q rfl rfl rfl (by first | exact QW.len_slE sl23 (.tmp rfl) (keysAV_length _) | exact QW.len_slE sl23 (.tmp rfl) (V.css_length _ _) | exact QW.len_slE sl23 (.tmp rfl) (intsAV_length _) | exact QW.len_sl sl23 (.tmp rfl) | exact QW.len_nil sl23 (.tmp rfl)) ?_
    refine JL.q rfl rfl rfl (QW.geq (.tmp rfl) (.tmp rfl)) ?_
    refine JL.nil ?_
    refine thenQ.n ?_
    refine J.cond (.tmp rfl) (fun c2 => ?_) (fun c2 => ?_)
    · skip
      have hg2 : b.length ≤ k := by simpa using c2
      refine J.seq ?_
      refine J.region_lit ?_
      refine JL.q rfl rfl rfl (QW.assign .const) ?_
      refine JL.nil ?_
      refine thenQ.n ?_
      refine J.ret ?_
      refine thenQ.r ?_
      refine blkQ.r ?_
      refine thenQ.r ?_
      refine thenQ.r ?_
      refine blkQ.r ?_
      refine thenQ.r ?_
      exact ⟨_, selP [] _, _, RetEv.one rfl (REv.tmp rfl (.refl _)), rfl, sel_perm [] _, ⟨by rw [hs, cmpK_gt hlt hg2], rfl⟩⟩
    · skip
      have hlt2 : k < b.length := by simpa using c2
      refine J.skip ?_
      refine thenQ.n ?_
      refine J.seq ?_
      refine J.region_lit ?_
      refine JL.q rfl rfl rfl (QW.move (.tmp rfl)) ?_
      refine JL.q rfl rfl rfl (QW.move (.tmp rfl)) ?_
      refine JL.q rfl rfl rfl (QW.index_sl sl23 ty9 rfl (.tmp rfl) (.tmp rfl) (by first | rfl | omega | (simp; done)) (by first | exact keysAV_getE hlt | exact keysAV_getE hlt2)) ?_
      refine JL.q rfl rfl rfl (QW.load_ref1 ty9 (.tmp rfl) rfl) ?_
      refine JL.q rfl rfl rfl (QW.assign (.tmp rfl)) ?_
      refine JL.nil ?_
      refine thenQ.n ?_
      refine J.seq ?_
      refine J.region_lit ?_
      refine JL.q rfl rfl rfl (QW.move (.tmp rfl)) ?_
      refine JL.q rfl rfl rfl (QW.move (.tmp rfl)) ?_
      refine JL.q rfl rfl rfl (QW.call gofn117 (.cons (.tmp rfl) (.cons (.tmp rfl) .nil)) (cmpStr_ok _ _)) ?_
      refine JL.q rfl rfl rfl (QW.assign (.tmp rfl)) ?_
      refine JL.nil ?_
      refine thenQ.n ?_
      refine J.seq ?_
      refine J.region_lit ?_
      refine JL.q rfl rfl rfl (QW.move (.tmp rfl)) ?_
      refine JL.q rfl rfl rfl (QW.neq (.tmp rfl) .const) ?_
      refine JL.nil ?_
      refine thenQ.n ?_
      refine J.cond (.tmp rfl) (fun c3 => ?_) (fun c3 => ?_)
      · skip
        have hz : cmpS (a[k]'hlt) (b[k]'hlt2) ≠ 0 := by simpa using c3
        refine J.seq ?_
        refine J.region_lit ?_
        refine JL.q rfl rfl rfl (QW.move (.tmp rfl)) ?_
        refine JL.q rfl rfl rfl (QW.assign (.tmp rfl)) ?_
        refine JL.nil ?_
        refine thenQ.n ?_
        refine J.ret ?_
        refine blkQ.r ?_
        refine thenQ.r ?_
        refine thenQ.r ?_
        refine blkQ.r ?_
        refine thenQ.r ?_
        exact ⟨_, selP [] _, _, RetEv.one rfl (REv.tmp rfl (.refl _)), rfl, sel_perm [] _, ⟨by rw [hs, cmpK_drop hlt hlt2, orI_n hz], rfl⟩⟩
      · skip
        have hz : cmpS (a[k]'hlt) (b[k]'hlt2) = 0 := by simpa using c3
        refine J.skip ?_
        refine blkQ.n ?_
        refine thenQ.n ?_
        refine J.region_lit ?_
        refine JL.q rfl rfl rfl (QW.add (.tmp rfl) .const (by first | exact w64n (by first | rfl | omega | (simp; done)) (by omega) | exact w64 (by omega) | rfl)) ?_
        refine JL.q rfl rfl rfl (QW.move (.tmp rfl)) ?_
        refine JL.nil ?_
        refine thenQ.n ?_
        exact ⟨k + 1, ⟨hlt, hlt2, by rw [hs, cmpK_drop hlt hlt2, hz, orI_z]⟩, by omega, Wk.re (.cons rfl (.refl _) (.cons rfl (.refl _) (.cons rfl (.refl _) (.cons rfl (.refl _) (.cons rfl (.refl _) .nil))))) (Reown.refl _) (fun _ h => by first | exact h | simp [h])⟩
  · skip
    have hge : a.length ≤ k := by simpa using c1
    refine J.exit ?_
    refine thenQ.x ?_
    refine thenQ.x ?_
    refine blkQ.hit ?_
    refine thenQ.n ?_
    refine J.seq ?_
    refine J.seq ?_
    refine J.region_lit ?_
    refine JL.q rfl rfl rfl (QW.move (.tmp rfl)) ?_
    refine JL.q rfl rfl rfl (by first | exact QW.len_slE sl23 (.tmp rfl) (keysAV_length _) | exact QW.len_slE sl23 (.tmp rfl) (V.css_length _ _) | exact QW.len_slE sl23 (.tmp rfl) (intsAV_length _) | exact QW.len_sl sl23 (.tmp rfl) | exact QW.len_nil sl23 (.tmp rfl)) ?_
    refine JL.q rfl rfl rfl (QW.move (.tmp rfl)) ?_
    refine JL.q rfl rfl rfl (by first | exact QW.len_slE sl23 (.tmp rfl) (keysAV_length _) | exact QW.len_slE sl23 (.tmp rfl) (V.css_length _ _) | exact QW.len_slE sl23 (.tmp rfl) (intsAV_length _) | exact QW.len_sl sl23 (.tmp rfl) | exact QW.len_nil sl23 (.tmp rfl)) ?_
    refine JL.q rfl rfl rfl (QW.lss (.tmp rfl) (.tmp rfl)) ?_
    refine JL.nil ?_
    refine thenQ.n ?_
    refine J.cond (.tmp rfl) (fun c2 => ?_) (fun c2 => ?_)
    · skip
      have hx : a.length < b.length := by simpa using c2
      refine J.seq ?_
      refine J.region_lit ?_
      refine JL.q rfl rfl rfl (QW.assign .const) ?_
      refine JL.nil ?_
      refine thenQ.n ?_
      refine J.ret ?_
      refine thenQ.r ?_
      exact ⟨_, selP [] _, _, RetEv.one rfl (REv.tmp rfl (.refl _)), rfl, sel_perm [] _, ⟨by rw [hs, cmpK_lt hge (by omega)], rfl⟩⟩
    · skip
      have hx : b.length ≤ a.length := by simpa using c2
      refine J.skip ?_
      refine thenQ.n ?_
      refine J.seq ?_
      refine J.region_lit ?_
      refine JL.q rfl rfl rfl (QW.assign .const) ?_
      refine JL.nil ?_
      refine thenQ.n ?_
      refine J.ret ?_
      exact ⟨_, selP [] _, _, RetEv.one rfl (REv.tmp rfl (.refl _)), rfl, sel_perm [] _, ⟨by rw [hs, cmpK_eq hge (by omega)], rfl⟩⟩
theorem cmpVals_ok {fr fr2 cl cl2 : Bool} (a b : List V) (ha : a.length ≤ 8796093022208) (hb : b.length ≤ 8796093022208) (ih : ∀ x ∈ a, ∀ y ∈ b, Fn Try.prog 82 [.agg (x.cs fr), .agg (y.cs fr2)] (.c (.int .i64 (x.ord y)))) : Fn Try.prog 119 [.sl fr cl eV (V.css fr a), .sl fr2 cl2 eV (V.css fr2 b), .c (.func (.func 82) #[] #[])] (.c (.int .i64 (V.ords a b))) := by
  refine AC.of_J Try.func119 rfl Try.ntmps119 rfl fun w0 A0 => ?_
  refine J.seq ?_
  refine J.region_lit ?_
  refine JL.q rfl rfl rfl (QW.assign .const) ?_
  refine JL.nil ?_
  refine thenQ.n ?_
  refine J.seq ?_
  refine J.seq ?_
  refine J.region_lit ?_
  refine JL.q rfl rfl rfl (QW.move (.tmp rfl)) ?_
  refine JL.q rfl rfl rfl (by first | exact QW.len_slE sl24 (.tmp rfl) (keysAV_length _) | exact QW.len_slE sl24 (.tmp rfl) (V.css_length _ _) | exact QW.len_slE sl24 (.tmp rfl) (intsAV_length _) | exact QW.len_sl sl24 (.tmp rfl) | exact QW.len_nil sl24 (.tmp rfl)) ?_
  refine JL.q rfl rfl rfl (QW.move .const) ?_
  refine JL.nil ?_
  refine thenQ.n ?_
  refine J.block ?_
  refine J.loopK (ι := Nat) [0, 1, 2, 11, 12] (fun k => [(13, .c (.int .i64 (k : Int)))]) (fun _ oo => oo) (fun k => k ≤ a.length ∧ k ≤ b.length ∧ V.ords a b = V.ords (a.drop k) (b.drop k)) (fun k => a.length - k) 0 (⟨Nat.zero_le _, Nat.zero_le _, rfl⟩) (Wk.re (.cons rfl (.refl _) (.cons rfl (.refl _) (.cons rfl (.refl _) (.cons rfl (.refl _) (.cons rfl (.refl _) (.cons rfl (.refl _) .nil)))))) (Reown.refl _) (fun _ h => by first | exact h | simp [h])) ?_
  intro k ⟨hk, hk2, hs⟩
  refine J.conv (by (try simp only [id_eq, stepsO, List.map_cons, List.map_nil, valO, nthO, curO, mrg, List.reverse_cons, List.reverse_nil, List.nil_append, List.cons_append, List.append_nil, List.getElem?_cons_zero, List.getElem?_cons_succ, Option.map_some, Option.getD_some, List.set_cons_zero, List.set_cons_succ, AV.cellsOf, splice_zero, splice_succ, Nat.zero_add, Nat.reduceAdd]); rfl) ?_
  refine J.seq ?_
  refine J.region_lit ?_
  refine JL.q rfl rfl rfl (QW.lss (.tmp rfl) (.tmp rfl)) ?_
  refine JL.nil ?_
  refine thenQ.n ?_
  refine J.seq ?_
  refine J.cond (.tmp rfl) (fun c1 => ?_) (fun c1 => ?_)
  · skip
    have hlt : k < a.length := by simpa using c1
    refine J.skip ?_
    refine thenQ.n ?_
    refine J.seq ?_
    refine J.block ?_
    refine J.seq ?_
    refine J.region_lit ?_
    refine JL.q rfl rfl rfl (QW.move (.tmp rfl)) ?_
    refine JL.q rfl rfl rfl (QW.index_sl sl24 ty26 rfl (.tmp rfl) (.tmp rfl) (by first | rfl | omega | (simp; done)) (by first | exact V.css_getE _ hlt | exact V.css_getE _ hlt2)) ?_
    refine JL.q rfl rfl rfl (by first | exact QW.load_ref ty26 (.tmp rfl) rfl rfl | exact QW.load_ref ty26 (.tmp rfl) (take_at0 (V.cs_length _ _) rfl) (V.cs_length _ _)) ?_
    refine JL.alloc z26 rfl rfl fun b8 => ?_
    refine JL.q rfl rfl rfl (QW.assign (.tmp rfl)) ?_
    first | refine JL.store_boxF 0 ty26 (.tmp rfl) rfl (.tmp rfl) (by first | rfl | assumption) (rfl) (rfl) rfl ?_ | refine JL.store_boxF 0 ty26 (.tmp rfl) rfl (.tmp rfl) (by first | rfl | assumption) (rfl) (V.cs_length _ _) rfl ?_ | refine JL.store_boxF 0 ty26 (.tmp rfl) rfl (.tmp rfl) (by first | rfl | assumption) (V.cs_length _ _) (rfl) rfl ?_ | refine JL.store_boxF 0 ty26 (.tmp rfl) rfl (.tmp rfl) (by first | rfl | assumption) (V.cs_length _ _) (V.cs_length _ _) rfl ?_ | refine JL.store_box 0 ty26 (.tmp rfl) rfl (.tmp rfl) (by first | rfl | assumption) rfl rfl rfl rfl ?_ | refine JL.store_box 0 ty26 (.tmp rfl) rfl (.tmp rfl) (by first | rfl | assumption) (V.cs_length _ _) rfl rfl rfl ?_
    refine JL.nil ?_
    refine thenQ.n ?_
    refine J.seq ?_
    refine J.seq ?_
    refine J.region_lit ?_
    refine JL.q rfl rfl rfl (QW.move (.tmp rfl)) ?_
    refine JL.q rfl rfl rfl (QW.move (.tmp rfl)) ?_
    refine JL.q rfl rfl rfl (by first | exact QW.len_slE sl24 (.tmp rfl) (keysAV_length _) | exact QW.len_slE sl24 (.tmp rfl) (V.css_length _ _) | exact QW.len_slE sl24 (.tmp rfl) (intsAV_length _) | exact QW.len_sl sl24 (.tmp rfl) | exact QW.len_nil sl24 (.tmp rfl)) ?_
    refine JL.q rfl rfl rfl (QW.geq (.tmp rfl) (.tmp rfl)) ?_
    refine JL.nil ?_
    refine thenQ.n ?_
    refine J.cond (.tmp rfl) (fun c2 => ?_) (fun c2 => ?_)
    · skip
      have hg2 : b.length ≤ k := by simpa using c2
      refine J.seq ?_
      refine J.region_lit ?_
      refine JL.q rfl rfl rfl (QW.assign .const) ?_
      refine JL.nil ?_
      refine thenQ.n ?_
      refine J.ret ?_
      refine thenQ.r ?_
      refine blkQ.r ?_
      refine thenQ.r ?_
      refine thenQ.r ?_
      refine blkQ.r ?_
      refine thenQ.r ?_
      exact ⟨_, selP [.k] _, _, RetEv.one rfl (REv.tmp rfl (.refl _)), rfl, sel_perm [.k] _, ⟨by rw [hs, ords_gt hlt hg2], rfl⟩⟩
    · skip
      have hlt2 : k < b.length := by simpa using c2
      refine J.skip ?_
      refine thenQ.n ?_
      refine J.seq ?_
      refine J.region_lit ?_
      refine JL.q rfl rfl rfl (QW.move (.tmp rfl)) ?_
      refine JL.q rfl rfl rfl (QW.move (.tmp rfl)) ?_
      refine JL.q rfl rfl rfl (QW.index_sl sl24 ty26 rfl (.tmp rfl) (.tmp rfl) (by first | rfl | omega | (simp; done)) (by first | exact V.css_getE _ hlt | exact V.css_getE _ hlt2)) ?_
      refine JL.q rfl rfl rfl (by first | exact QW.load_ref ty26 (.tmp rfl) rfl rfl | exact QW.load_ref ty26 (.tmp rfl) (take_at0 (V.cs_length _ _) rfl) (V.cs_length _ _)) ?_
      refine JL.alloc z26 rfl rfl fun b9 => ?_
      first | refine JL.store_boxF 0 ty26 (.tmp rfl) rfl (.tmp rfl) (by first | rfl | assumption) (rfl) (rfl) rfl ?_ | refine JL.store_boxF 0 ty26 (.tmp rfl) rfl (.tmp rfl) (by first | rfl | assumption) (rfl) (V.cs_length _ _) rfl ?_ | refine JL.store_boxF 0 ty26 (.tmp rfl) rfl (.tmp rfl) (by first | rfl | assumption) (V.cs_length _ _) (rfl) rfl ?_ | refine JL.store_boxF 0 ty26 (.tmp rfl) rfl (.tmp rfl) (by first | rfl | assumption) (V.cs_length _ _) (V.cs_length _ _) rfl ?_ | refine JL.store_box 0 ty26 (.tmp rfl) rfl (.tmp rfl) (by first | rfl | assumption) rfl rfl rfl rfl ?_ | refine JL.store_box 0 ty26 (.tmp rfl) rfl (.tmp rfl) (by first | rfl | assumption) (V.cs_length _ _) rfl rfl rfl ?_
      refine JL.nil ?_
      refine thenQ.n ?_
      refine J.seq ?_
      refine J.region_lit ?_
      refine JL.q rfl rfl rfl (QW.move (.tmp rfl)) ?_
      refine JL.q rfl rfl rfl (by first | exact QW.load_box 1 ty26 (.tmp rfl) rfl rfl rfl | exact QW.load_box 1 ty26 (.tmp rfl) rfl (take_at (V.cs_length _ _) rfl) (V.cs_length _ _)) ?_
      refine JL.q rfl rfl rfl (by first | exact QW.load_box 0 ty26 (.tmp rfl) rfl rfl rfl | exact QW.load_box 0 ty26 (.tmp rfl) rfl (take_at (V.cs_length _ _) rfl) (V.cs_length _ _)) ?_
      refine JL.q rfl rfl rfl (QW.callV gofn82 (.tmp rfl) (.cons (.tmp rfl) (.cons (.tmp rfl) .nil)) rfl (ih _ (List.getElem_mem hlt) _ (List.getElem_mem hlt2))) ?_
      refine JL.q rfl rfl rfl (QW.assign (.tmp rfl)) ?_
      refine JL.nil ?_
      refine thenQ.n ?_
      refine J.seq ?_
      refine J.region_lit ?_
      refine JL.q rfl rfl rfl (QW.move (.tmp rfl)) ?_
      refine JL.q rfl rfl rfl (QW.neq (.tmp rfl) .const) ?_
      refine JL.nil ?_
      refine thenQ.n ?_
      refine J.cond (.tmp rfl) (fun c3 => ?_) (fun c3 => ?_)
      · skip
        have hz : (a[k]'hlt).ord (b[k]'hlt2) ≠ 0 := by simpa using c3
        refine J.seq ?_
        refine J.region_lit ?_
        refine JL.q rfl rfl rfl (QW.move (.tmp rfl)) ?_
        refine JL.q rfl rfl rfl (QW.assign (.tmp rfl)) ?_
        refine JL.nil ?_
        refine thenQ.n ?_
        refine J.ret ?_
        refine blkQ.r ?_
        refine thenQ.r ?_
        refine thenQ.r ?_
        refine blkQ.r ?_
        refine thenQ.r ?_
        exact ⟨_, selP [.k, .k] _, _, RetEv.one rfl (REv.tmp rfl (.refl _)), rfl, sel_perm [.k, .k] _, ⟨by rw [hs, ords_drop hlt hlt2, orI_n hz], rfl⟩⟩
      · skip
        have hz : (a[k]'hlt).ord (b[k]'hlt2) = 0 := by simpa using c3
        refine J.skip ?_
        refine blkQ.n ?_
        refine thenQ.n ?_
        refine J.region_lit ?_
        refine JL.q rfl rfl rfl (QW.add (.tmp rfl) .const (by first | exact w64n (by first | rfl | omega | (simp; done)) (by omega) | exact w64 (by omega) | rfl)) ?_
        refine JL.q rfl rfl rfl (QW.move (.tmp rfl)) ?_
        refine JL.nil ?_
        refine thenQ.n ?_
        exact ⟨k + 1, ⟨hlt, hlt2, by rw [hs, ords_drop hlt hlt2, hz, orI_z]⟩, by omega, Wk.re (.cons rfl (.refl _) (.cons rfl (.refl _) (.cons rfl (.refl _) (.cons rfl (.refl _) (.cons rfl (.refl _) (.cons rfl (.refl _) .nil)))))) (Reown.dropN 2 _ rfl) (fun _ h => by first | exact h | simp [h])⟩
  · skip
    have hge : a.length ≤ k := by simpa using c1
    refine J.exit ?_
    refine thenQ.x ?_
    refine thenQ.x ?_
    refine blkQ.hit ?_
    refine thenQ.n ?_
    refine J.seq ?_
    refine J.seq ?_
    refine J.region_lit ?_
    refine JL.q rfl rfl rfl (QW.move (.tmp rfl)) ?_
    refine JL.q rfl rfl rfl (by first | exact QW.len_slE sl24 (.tmp rfl) (keysAV_length _) | exact QW.len_slE sl24 (.tmp rfl) (V.css_length _ _) | exact QW.len_slE sl24 (.tmp rfl) (intsAV_length _) | exact QW.len_sl sl24 (.tmp rfl) | exact QW.len_nil sl24 (.tmp rfl)) ?_
    refine JL.q rfl rfl rfl (QW.move (.tmp rfl)) ?_
    refine JL.q rfl rfl rfl (by first | exact QW.len_slE sl24 (.tmp rfl) (keysAV_length _) | exact QW.len_slE sl24 (.tmp rfl) (V.css_length _ _) | exact QW.len_slE sl24 (.tmp rfl) (intsAV_length _) | exact QW.len_sl sl24 (.tmp rfl) | exact QW.len_nil sl24 (.tmp rfl)) ?_
    refine JL.q rfl rfl rfl (QW.lss (.tmp rfl) (.tmp rfl)) ?_
    refine JL.nil ?_
    refine thenQ.n ?_
    refine J.cond (.tmp rfl) (fun c2 => ?_) (fun c2 => ?_)
    · skip
      have hx : a.length < b.length := by simpa using c2
      refine J.seq ?_
      refine J.region_lit ?_
      refine JL.q rfl rfl rfl (QW.assign .const) ?_
      refine JL.nil ?_
      refine thenQ.n ?_
      refine J.ret ?_
      refine thenQ.r ?_
      exact ⟨_, selP [] _, _, RetEv.one rfl (REv.tmp rfl (.refl _)), rfl, sel_perm [] _, ⟨by rw [hs, ords_lt hge (by omega)], rfl⟩⟩
    · skip
      have hx : b.length ≤ a.length := by simpa using c2
      refine J.skip ?_
      refine thenQ.n ?_
      refine J.seq ?_
      refine J.region_lit ?_
      refine JL.q rfl rfl rfl (QW.assign .const) ?_
      refine JL.nil ?_
      refine thenQ.n ?_
      refine J.ret ?_
      exact ⟨_, selP [] _, _, RetEv.one rfl (REv.tmp rfl (.refl _)), rfl, sel_perm [] _, ⟨by rw [hs, ords_eq hge (by omega)], rfl⟩⟩
end Go.Proofs.Ytkiankpmkglhcaa.J

/- Walks: the order of values. -/
namespace Go.Proofs.Ytkiankpmkglhcaa.J
open Go Go.RowKit
set_option linter.unusedVariables false
set_option linter.unusedSimpArgs false
set_option maxRecDepth 10000
set_option maxHeartbeats 4000000
theorem vorder_n  : ∀ (n : Nat) {v u : V} {ys zs : List AV} {fr fr2 : Bool}, Vc fr v ys → Vc fr2 u zs → v.wf → u.wf → v.sz ≤ n →
    Fn Try.prog 82 [.agg ys, .agg zs] (.c (.int .i64 (v.ord u))) := by
  intro n
  induction n with
  | zero => intro v u ys zs fr fr2 hv hu hw hw2 h; exact absurd h (by have := V.sz_pos v; omega)
  | succ n ih =>
    intro v u ys zs fr fr2 hv hu hw hw2 hn
    obtain ⟨k, b, t, ks, is⟩ := v
    obtain ⟨k', b', t', ks', is'⟩ := u
    subst hv hu
    obtain ⟨-, hb, -, hk16, hi80, -, hwi⟩ := hw.inv
    obtain ⟨-, hb2, -, hk16', hi80', -, hwi'⟩ := hw2.inv
    have h1 : is.length ≤ 8796093022208 := by unfold reach at hi80; omega
    have h2 : is'.length ≤ 8796093022208 := by unfold reach at hi80'; omega
    have h3 : ks.length ≤ 8796093022208 := by unfold reach at hk16; omega
    have h4 : ks'.length ≤ 8796093022208 := by unfold reach at hk16'; omega
    refine AC.of_J Try.func82 rfl Try.ntmps82 rfl fun w0 A0 => ?_
    refine J.seq ?_
    refine J.region_lit ?_
    refine JL.box_agg (.tmp rfl) rfl fun b2 => ?_
    refine JL.box_agg (.tmp rfl) rfl fun b3 => ?_
    refine JL.q rfl rfl rfl (QW.assign .const) ?_
    refine JL.nil ?_
    refine thenQ.n ?_
    refine J.seq ?_
    refine J.seq ?_
    refine J.region_lit ?_
    refine JL.q rfl rfl rfl (QW.field_ptr fo26_0 (.tmp rfl) rfl) ?_
    refine JL.q rfl rfl rfl (QW.load_box1 1 ty3 (.tmp rfl) rfl rfl) ?_
    refine JL.q rfl rfl rfl (QW.field_ptr fo26_0 (.tmp rfl) rfl) ?_
    refine JL.q rfl rfl rfl (QW.load_box1 0 ty3 (.tmp rfl) rfl rfl) ?_
    refine JL.q rfl rfl rfl (QW.call gofn102 (.cons (.tmp rfl) (.cons (.tmp rfl) .nil)) (cmpI_ok _ _)) ?_
    refine JL.q rfl rfl rfl (QW.assign (.tmp rfl)) ?_
    refine JL.nil ?_
    refine thenQ.n ?_
    refine J.seq ?_
    refine J.region_lit ?_
    refine JL.q rfl rfl rfl (QW.move (.tmp rfl)) ?_
    refine JL.q rfl rfl rfl (QW.neq (.tmp rfl) .const) ?_
    refine JL.nil ?_
    refine thenQ.n ?_
    refine J.cond (.tmp rfl) (fun c1 => ?_) (fun c1 => ?_)
    · skip
      have hz : cmpI k k' ≠ 0 := by simpa using c1
      refine J.seq ?_
      refine J.region_lit ?_
      refine JL.q rfl rfl rfl (QW.move (.tmp rfl)) ?_
      refine JL.q rfl rfl rfl (QW.assign (.tmp rfl)) ?_
      refine JL.nil ?_
      refine thenQ.n ?_
      refine J.ret ?_
      refine thenQ.r ?_
      exact ⟨_, selP [.k, .k] _, _, RetEv.one rfl (REv.tmp rfl (.refl _)), rfl, sel_perm [.k, .k] _, ⟨by simp only [V.ord]; rw [orI_n hz], rfl⟩⟩
    · skip
      have hz : cmpI k k' = 0 := by simpa using c1
      refine J.skip ?_
      refine thenQ.n ?_
      refine J.seq ?_
      refine J.regionX mixed ?_
      refine JX.f 0 [] rfl rfl rfl rfl rfl rfl rfl rfl (fun ow_ => (.q rfl (QW.field_ptr fo26_1 (.tmp rfl) rfl))) ?_
      refine JX.o 1 1 [16] rfl rfl rfl rfl rfl rfl rfl rfl rfl (fun ow_ ho_ => (.q rfl (QW.load_box1 1 ty22 (.tmp rfl) ho_ rfl))) ?_
      refine JX.f 2 [] rfl rfl rfl rfl rfl rfl rfl rfl (fun ow_ => (.q rfl (QW.field_ptr fo26_1 (.tmp rfl) rfl))) ?_
      refine JX.o 3 0 [18] rfl rfl rfl rfl rfl rfl rfl rfl rfl (fun ow_ ho_ => (.q rfl (QW.load_box1 0 ty22 (.tmp rfl) ho_ rfl))) ?_
      refine JX.f 4 [17] rfl rfl rfl rfl rfl rfl rfl rfl (fun ow_ => (.q rfl (QW.assign (.tmp rfl)))) ?_
      refine JX.f 5 [19] rfl rfl rfl rfl rfl rfl rfl rfl (fun ow_ => (.q rfl (QW.assign (.tmp rfl)))) ?_
      refine JX.fin (by kernel_rfl) (by kernel_rfl) fun bs_ => ?_
      refine QX.conv (by (try simp only [vlF, bxF, tkM, lvM, Flt.val, Flt.bx, List.append_assoc, List.take_succ_cons, List.take_zero, List.append_eq, id_eq, stepsO, List.map_cons, List.map_nil, valO, nthO, curO, mrg, List.reverse_cons, List.reverse_nil, List.nil_append, List.cons_append, List.append_nil, List.getElem?_cons_zero, List.getElem?_cons_succ, Option.map_some, Option.getD_some, List.set_cons_zero, List.set_cons_succ, AV.cellsOf, splice_zero, splice_succ, Nat.zero_add, Nat.reduceAdd]); rfl) ?_
      refine thenQ.n ?_
      refine J.cutK (ι := Nat × Nat) [2, 3, 4] (fun ⟨n1, n2⟩ => [(6, .c (.int .u64 (n1 : Int))), (7, .c (.int .u64 (n2 : Int)))]) (fun ⟨n1, n2⟩ oo => oo) (fun ⟨n1, n2⟩ => n1 = V.numb k b ∧ n2 = V.numb k b') ?_ ?_
      · skip
        refine J.seq ?_
        refine J.region_lit ?_
        refine JL.q rfl rfl rfl (QW.field_ptr fo26_0 (.tmp rfl) rfl) ?_
        refine JL.q rfl rfl rfl (QW.load_box1 1 ty3 (.tmp rfl) rfl rfl) ?_
        refine JL.q rfl rfl rfl (QW.eql (.tmp rfl) .const) ?_
        refine JL.nil ?_
        refine thenQ.n ?_
        refine J.cond (.tmp rfl) (fun c2 => ?_) (fun c2 => ?_)
        · skip
          have hk2 : k = 2 := by simpa using c2
          refine J.region_lit ?_
          refine JL.q rfl rfl rfl (QW.move (.tmp rfl)) ?_
          refine JL.q rfl rfl rfl (QW.call gofn114 (.cons (.tmp rfl) .nil) (order_ok _ (by assumption))) ?_
          refine JL.q rfl rfl rfl (QW.move (.tmp rfl)) ?_
          refine JL.q rfl rfl rfl (QW.call gofn114 (.cons (.tmp rfl) .nil) (order_ok _ (by assumption))) ?_
          refine JL.q rfl rfl rfl (QW.assign (.tmp rfl)) ?_
          refine JL.q rfl rfl rfl (QW.assign (.tmp rfl)) ?_
          refine JL.nil ?_
          refine thenQ.n ?_
          exact ⟨⟨orderN b, orderN b'⟩, ⟨(if_pos hk2).symm, (if_pos hk2).symm⟩, Wk.re (.cons rfl (.refl _) (.cons rfl (.refl _) (.cons rfl (.refl _) (.cons rfl (.refl _) (.cons rfl (.refl _) .nil))))) (Reown.refl _) (fun _ h => by first | exact h | simp [h])⟩
        · skip
          have hk2 : k ≠ 2 := by simpa using c2
          refine J.skip ?_
          refine thenQ.n ?_
          exact ⟨⟨b, b'⟩, ⟨(if_neg hk2).symm, (if_neg hk2).symm⟩, Wk.re (.cons rfl (.refl _) (.cons rfl (.refl _) (.cons rfl (.refl _) (.cons rfl (.refl _) (.cons rfl (.refl _) .nil))))) (Reown.refl _) (fun _ h => by first | exact h | simp [h])⟩
      · intro ⟨n1, n2⟩ ⟨hn1, hn2⟩
        refine J.conv (by (try simp only [id_eq, stepsO, List.map_cons, List.map_nil, valO, nthO, curO, mrg, List.reverse_cons, List.reverse_nil, List.nil_append, List.cons_append, List.append_nil, List.getElem?_cons_zero, List.getElem?_cons_succ, Option.map_some, Option.getD_some, List.set_cons_zero, List.set_cons_succ, AV.cellsOf, splice_zero, splice_succ, Nat.zero_add, Nat.reduceAdd]); rfl) ?_
        refine J.seq ?_
        refine J.regionX mixed ?_
        refine JX.f 0 [] rfl rfl rfl rfl rfl rfl rfl rfl (fun ow_ => (.q rfl (QW.move (.tmp rfl)))) ?_
        refine JX.f 1 [] rfl rfl rfl rfl rfl rfl rfl rfl (fun ow_ => (.q rfl (QW.move (.tmp rfl)))) ?_
        refine JX.f 2 [27, 28] rfl rfl rfl rfl rfl rfl rfl rfl (fun ow_ => (.q rfl (QW.call gofn116 (.cons (.tmp rfl) (.cons (.tmp rfl) .nil)) (cmpU_ok _ _)))) ?_
        refine JX.f 3 [] rfl rfl rfl rfl rfl rfl rfl rfl (fun ow_ => (.q rfl (QW.field_ptr fo26_2 (.tmp rfl) rfl))) ?_
        refine JX.o 4 1 [30] rfl rfl rfl rfl rfl rfl rfl rfl rfl (fun ow_ ho_ => (.q rfl (QW.load_box1 1 ty9 (.tmp rfl) ho_ rfl))) ?_
        refine JX.f 5 [] rfl rfl rfl rfl rfl rfl rfl rfl (fun ow_ => (.q rfl (QW.field_ptr fo26_2 (.tmp rfl) rfl))) ?_
        refine JX.o 6 0 [32] rfl rfl rfl rfl rfl rfl rfl rfl rfl (fun ow_ ho_ => (.q rfl (QW.load_box1 0 ty9 (.tmp rfl) ho_ rfl))) ?_
        refine JX.f 7 [31, 33] rfl rfl rfl rfl rfl rfl rfl rfl (fun ow_ => (.q rfl (QW.call gofn117 (.cons (.tmp rfl) (.cons (.tmp rfl) .nil)) (cmpStr_ok _ _)))) ?_
        refine JX.f 8 [] rfl rfl rfl rfl rfl rfl rfl rfl (fun ow_ => (.q rfl (QW.field_ptr fo26_3 (.tmp rfl) rfl))) ?_
        refine JX.o 9 1 [35] rfl rfl rfl rfl rfl rfl rfl rfl rfl (fun ow_ ho_ => (.q rfl (QW.load_box1 1 ty23 (.tmp rfl) ho_ rfl))) ?_
        refine JX.f 10 [] rfl rfl rfl rfl rfl rfl rfl rfl (fun ow_ => (.q rfl (QW.field_ptr fo26_3 (.tmp rfl) rfl))) ?_
        refine JX.o 11 0 [37] rfl rfl rfl rfl rfl rfl rfl rfl rfl (fun ow_ ho_ => (.q rfl (QW.load_box1 0 ty23 (.tmp rfl) ho_ rfl))) ?_
        refine JX.f 12 [36, 38] rfl rfl rfl rfl rfl rfl rfl rfl (fun ow_ => (.q rfl (QW.call gofn118 (.cons (.tmp rfl) (.cons (.tmp rfl) .nil)) (cmpKeys_ok ks ks' h3 h4)))) ?_
        refine JX.f 13 [] rfl rfl rfl rfl rfl rfl rfl rfl (fun ow_ => (.q rfl (QW.field_ptr fo26_4 (.tmp rfl) rfl))) ?_
        refine JX.o 14 1 [40] rfl rfl rfl rfl rfl rfl rfl rfl rfl (fun ow_ ho_ => (.q rfl (QW.load_box1 1 ty24 (.tmp rfl) ho_ rfl))) ?_
        refine JX.f 15 [] rfl rfl rfl rfl rfl rfl rfl rfl (fun ow_ => (.q rfl (QW.field_ptr fo26_4 (.tmp rfl) rfl))) ?_
        refine JX.o 16 0 [42] rfl rfl rfl rfl rfl rfl rfl rfl rfl (fun ow_ ho_ => (.q rfl (QW.load_box1 0 ty24 (.tmp rfl) ho_ rfl))) ?_
        refine JX.f 17 [41, 43] rfl rfl rfl rfl rfl rfl rfl rfl (fun ow_ => (.q rfl (QW.call gofn119 (.cons (.tmp rfl) (.cons (.tmp rfl) (.cons .func .nil))) (cmpVals_ok is is' h1 h2 (fun x hx y hy => (by obtain ⟨i, hi, rfl⟩ := List.getElem_of_mem hx; exact ih Vc.self Vc.self (hwi _ hx) (hwi' _ hy) (V.sz_get hn hi))))))) ?_
        refine JX.f 18 [29, 34, 39, 44] rfl rfl rfl rfl rfl rfl rfl rfl (fun ow_ => (.q rfl (QW.buildSlice (idx := [0, 1, 2, 3]) (xs := [[.c (.int .i64 (cmpI (n1 : Int) (n2 : Int)))], [.c (.int .i64 (cmpS t t'))], [.c (.int .i64 (cmpK ks ks'))], [.c (.int .i64 (V.ords is is'))]]) sl66 el3 z3 rfl (.cons (.tmp rfl) (.cons (.tmp rfl) (.cons (.tmp rfl) (.cons (.tmp rfl) .nil)))) rfl rfl rfl rfl rfl rfl rfl rfl rfl))) ?_
        refine JX.f 19 [45] rfl rfl rfl rfl rfl rfl rfl rfl (fun ow_ => (.q rfl (QW.call gofn115 (.cons (.tmp rfl) .nil) (or_ok [(cmpI (n1 : Int) (n2 : Int)), (cmpS t t'), (cmpK ks ks'), (V.ords is is')] (by simp))))) ?_
        refine JX.f 20 [46] rfl rfl rfl rfl rfl rfl rfl rfl (fun ow_ => (.q rfl (QW.assign (.tmp rfl)))) ?_
        refine JX.fin (by kernel_rfl) (by kernel_rfl) fun bs_ => ?_
        refine QX.conv (by (try simp only [vlF, bxF, tkM, lvM, Flt.val, Flt.bx, List.append_assoc, List.take_succ_cons, List.take_zero, List.append_eq, id_eq, stepsO, List.map_cons, List.map_nil, valO, nthO, curO, mrg, List.reverse_cons, List.reverse_nil, List.nil_append, List.cons_append, List.append_nil, List.getElem?_cons_zero, List.getElem?_cons_succ, Option.map_some, Option.getD_some, List.set_cons_zero, List.set_cons_succ, AV.cellsOf, splice_zero, splice_succ, Nat.zero_add, Nat.reduceAdd]); rfl) ?_
        refine thenQ.n ?_
        refine J.ret ?_
        exact ⟨_, selP [.k, .k] _, _, RetEv.one rfl (REv.tmp rfl (.refl _)), rfl, sel_perm [.k, .k] _, ⟨by simp only [V.ord]; rw [hz, orI_z, ← hn1, ← hn2]; simp only [orL]; rw [show orI (V.ords is is') 0 = V.ords is is' from orL_one _], rfl⟩⟩
theorem vorder_ok {v u : V} {ys zs : List AV} {fr fr2 : Bool} (hv : Vc fr v ys) (hu : Vc fr2 u zs) (hw : v.wf) (hw2 : u.wf) : Fn Try.prog 82 [.agg ys, .agg zs] (.c (.int .i64 (v.ord u))) := vorder_n _ hv hu hw hw2 (Nat.le_refl _)
end Go.Proofs.Ytkiankpmkglhcaa.J

/- Walks: the page's order of values. -/
namespace Go.Proofs.Ytkiankpmkglhcaa.J
open Go Go.RowKit
set_option linter.unusedVariables false
set_option linter.unusedSimpArgs false
set_option maxRecDepth 10000
set_option maxHeartbeats 4000000
section
variable {k : Int} {b b' : Nat} {t t' : Str} {ks ks' : List Str} {is is' : List V}
end
end Go.Proofs.Ytkiankpmkglhcaa.J

/- Walks: values compared; ValueOrders, ValueOrder. -/
namespace Go.Proofs.Ytkiankpmkglhcaa.J
open Go Go.RowKit
set_option linter.unusedVariables false
set_option linter.unusedSimpArgs false
set_option maxRecDepth 10000
set_option maxHeartbeats 4000000
theorem orI_rng {a b : Int} (h : -1 ≤ a ∧ a ≤ 1) (g : -1 ≤ b ∧ b ≤ 1) : -1 ≤ orI a b ∧ orI a b ≤ 1 := by unfold orI; split <;> assumption
theorem cmpI_rng (a b : Int) : -1 ≤ cmpI a b ∧ cmpI a b ≤ 1 := by unfold cmpI; (repeat' split) <;> decide
theorem cmpS_rng (a b : Str) : -1 ≤ cmpS a b ∧ cmpS a b ≤ 1 := by unfold cmpS; (repeat' split) <;> decide
theorem cmpK_rng : ∀ a b : List Str, -1 ≤ cmpK a b ∧ cmpK a b ≤ 1
  | [], [] => by simp [cmpK]
  | [], _ :: _ => by simp [cmpK]
  | _ :: _, [] => by simp [cmpK]
  | x :: r, y :: s => by rw [cmpK]; exact orI_rng (cmpS_rng x y) (cmpK_rng r s)
mutual
theorem V.ord_rng : ∀ a b : V, -1 ≤ a.ord b ∧ a.ord b ≤ 1
  | .mk k b t ks is, .mk k' b' t' ks' is' => by
    rw [V.ord]
    exact orI_rng (cmpI_rng _ _) (orI_rng (cmpI_rng _ _) (orI_rng (cmpS_rng _ _) (orI_rng (cmpK_rng _ _) (V.ords_rng is is'))))
theorem V.ords_rng : ∀ a b : List V, -1 ≤ V.ords a b ∧ V.ords a b ≤ 1
  | [], [] => by simp [V.ords]
  | [], _ :: _ => by simp [V.ords]
  | _ :: _, [] => by simp [V.ords]
  | x :: r, y :: s => by rw [V.ords]; exact orI_rng (V.ord_rng x y) (V.ords_rng r s)
end
theorem V.cmp_rng (v u : V) : -1 ≤ (v.cmp u).1 ∧ (v.cmp u).1 ≤ 1 ∧ 0 ≤ (v.cmp u).2 ∧ (v.cmp u).2 ≤ 10 := by
  have h1 : 0 ≤ v.err ∧ v.err ≤ 10 := by have := V.chk_rng v 1 0; unfold V.err; omega
  have h2 : 0 ≤ u.err ∧ u.err ≤ 10 := by have := V.chk_rng u 1 0; unfold V.err; omega
  have h3 := V.ord_rng v u
  unfold V.cmp
  split
  · show -1 ≤ (0 : Int) ∧ (0 : Int) ≤ 1 ∧ 0 ≤ v.err ∧ v.err ≤ 10; omega
  · split
    · show -1 ≤ (0 : Int) ∧ (0 : Int) ≤ 1 ∧ 0 ≤ u.err ∧ u.err ≤ 10; omega
    · show -1 ≤ v.ord u ∧ v.ord u ≤ 1 ∧ 0 ≤ (0 : Int) ∧ (0 : Int) ≤ 10; omega
def cmpAV (v u : V) : AV := .tup [.c (.int .i64 (v.cmp u).1), .c (.int .i64 (v.cmp u).2)]
theorem cmpAV_of {v u : V} {c e : Int} (h : v.cmp u = (c, e)) : cmpAV v u = .tup [.c (.int .i64 c), .c (.int .i64 e)] := by rw [cmpAV, h]
theorem vcmp_ok {fr fr2 : Bool} {v u : V} {ys zs : List AV} (hv : Vc fr v ys) (hu : Vc fr2 u zs) (hw : v.wf) (hw2 : u.wf) : Fn Try.prog 33 [.agg ys, .agg zs] (cmpAV v u) := by
  subst hv hu
  refine AC.of_J Try.func33 rfl Try.ntmps33 rfl fun w0 A0 => ?_
  refine J.seq ?_
  refine J.region_lit ?_
  refine JL.box_agg (.tmp rfl) rfl fun b2 => ?_
  refine JL.box_agg (.tmp rfl) rfl fun b3 => ?_
  refine JL.q rfl rfl rfl (QW.assign .const) ?_
  refine JL.q rfl rfl rfl (QW.assign .const) ?_
  refine JL.nil ?_
  refine thenQ.n ?_
  refine J.seq ?_
  refine J.seq ?_
  refine J.region_lit ?_
  refine JL.q rfl rfl rfl (by first | exact QW.load_box 1 ty26 (.tmp rfl) rfl rfl rfl | exact QW.load_box 1 ty26 (.tmp rfl) rfl (take_at (V.cs_length _ _) rfl) (V.cs_length _ _)) ?_
  refine JL.q rfl rfl rfl (QW.call gofn24 (.cons (.tmp rfl) .nil) (check_ok Vc.self hw)) ?_
  refine JL.q rfl rfl rfl (QW.assign (.tmp rfl)) ?_
  refine JL.nil ?_
  refine thenQ.n ?_
  refine J.seq ?_
  refine J.region_lit ?_
  refine JL.q rfl rfl rfl (QW.move (.tmp rfl)) ?_
  refine JL.q rfl rfl rfl (QW.neq (.tmp rfl) .const) ?_
  refine JL.nil ?_
  refine thenQ.n ?_
  refine J.cond (.tmp rfl) (fun c1 => ?_) (fun c1 => ?_)
  · skip
    simp at c1
    refine J.seq ?_
    refine J.region_lit ?_
    refine JL.q rfl rfl rfl (QW.move (.tmp rfl)) ?_
    refine JL.q rfl rfl rfl (QW.assign .const) ?_
    refine JL.q rfl rfl rfl (QW.assign (.tmp rfl)) ?_
    refine JL.nil ?_
    refine thenQ.n ?_
    refine J.ret ?_
    refine thenQ.r ?_
    exact ⟨_, selP [.k, .k] _, _, RetEv.two rfl (REv.tmp rfl (.refl _)) (REv.tmp rfl (.refl _)), rfl, sel_perm [.k, .k] _, ⟨congrArg Res.ret (cmpAV_of (c := 0) (e := v.err) (by rw [V.cmp, if_pos c1])).symm, rfl⟩⟩
  · skip
    simp at c1
    have hf := V.fine_of c1
    refine J.skip ?_
    refine thenQ.n ?_
    refine J.seq ?_
    refine J.seq ?_
    refine J.region_lit ?_
    refine JL.q rfl rfl rfl (by first | exact QW.load_box 0 ty26 (.tmp rfl) rfl rfl rfl | exact QW.load_box 0 ty26 (.tmp rfl) rfl (take_at (V.cs_length _ _) rfl) (V.cs_length _ _)) ?_
    refine JL.q rfl rfl rfl (QW.call gofn24 (.cons (.tmp rfl) .nil) (check_ok Vc.self hw2)) ?_
    refine JL.q rfl rfl rfl (QW.assign (.tmp rfl)) ?_
    refine JL.nil ?_
    refine thenQ.n ?_
    refine J.seq ?_
    refine J.region_lit ?_
    refine JL.q rfl rfl rfl (QW.move (.tmp rfl)) ?_
    refine JL.q rfl rfl rfl (QW.neq (.tmp rfl) .const) ?_
    refine JL.nil ?_
    refine thenQ.n ?_
    refine J.cond (.tmp rfl) (fun c2 => ?_) (fun c2 => ?_)
    · skip
      simp at c2
      refine J.seq ?_
      refine J.region_lit ?_
      refine JL.q rfl rfl rfl (QW.move (.tmp rfl)) ?_
      refine JL.q rfl rfl rfl (QW.assign .const) ?_
      refine JL.q rfl rfl rfl (QW.assign (.tmp rfl)) ?_
      refine JL.nil ?_
      refine thenQ.n ?_
      refine J.ret ?_
      refine thenQ.r ?_
      exact ⟨_, selP [.k, .k] _, _, RetEv.two rfl (REv.tmp rfl (.refl _)) (REv.tmp rfl (.refl _)), rfl, sel_perm [.k, .k] _, ⟨congrArg Res.ret (cmpAV_of (c := 0) (e := u.err) (by rw [V.cmp, if_neg (by simp [c1]), if_pos c2])).symm, rfl⟩⟩
    · skip
      simp at c2
      have hg := V.fine_of c2
      refine J.skip ?_
      refine thenQ.n ?_
      refine J.seq ?_
      refine J.region_lit ?_
      refine JL.q rfl rfl rfl (by first | exact QW.load_box 1 ty26 (.tmp rfl) rfl rfl rfl | exact QW.load_box 1 ty26 (.tmp rfl) rfl (take_at (V.cs_length _ _) rfl) (V.cs_length _ _)) ?_
      refine JL.q rfl rfl rfl (by first | exact QW.load_box 0 ty26 (.tmp rfl) rfl rfl rfl | exact QW.load_box 0 ty26 (.tmp rfl) rfl (take_at (V.cs_length _ _) rfl) (V.cs_length _ _)) ?_
      refine JL.q rfl rfl rfl (QW.call gofn82 (.cons (.tmp rfl) (.cons (.tmp rfl) .nil)) (vorder_ok Vc.self Vc.self hw hw2)) ?_
      refine JL.q rfl rfl rfl (QW.assign (.tmp rfl)) ?_
      refine JL.q rfl rfl rfl (QW.assign .const) ?_
      refine JL.nil ?_
      refine thenQ.n ?_
      refine J.ret ?_
      exact ⟨_, selP [.k, .k] _, _, RetEv.two rfl (REv.tmp rfl (.refl _)) (REv.tmp rfl (.refl _)), rfl, sel_perm [.k, .k] _, ⟨congrArg Res.ret (cmpAV_of (c := v.ord u) (e := 0) (by rw [V.cmp, if_neg (by simp [c1]), if_neg (by simp [c2])])).symm, rfl⟩⟩
end Go.Proofs.Ytkiankpmkglhcaa.J

