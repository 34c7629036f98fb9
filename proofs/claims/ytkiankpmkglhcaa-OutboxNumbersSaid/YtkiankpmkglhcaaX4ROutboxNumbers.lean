/- Texts of this proof, laid together. -/
import Derived.Test.YtkiankpmkglhcaaX3ROutboxNumbers
/- Walks: OutboxNumbers. -/
namespace Go.Proofs.Ytkiankpmkglhcaa.J
open Go Go.RowKit
set_option linter.unusedVariables false
set_option linter.unusedSimpArgs false
set_option maxRecDepth 10000
set_option maxHeartbeats 4000000
theorem numIt_get {seq : Int} : ∀ {m : List EvT} {i j : Nat} (h : j < m.length), (numIt seq i m)[j]? = some ⟨32 * seq + ((i + j : Nat) : Int), m[j]⟩
  | e :: r, i, 0, _ => by simp [numIt]
  | e :: r, i, j + 1, h => by
    have := numIt_get (seq := seq) (m := r) (i := i + 1) (j := j) (by simpa using h)
    simp only [numIt, List.getElem?_cons_succ, this, List.getElem_cons_succ]
    rw [show i + 1 + j = i + (j + 1) by omega]
theorem add_inv {q : BT} {seq : Int} {m : List EvT} (h : (q.add seq m).2 = 0) : q.add seq m = (⟨seq, q.items ++ numIt seq 0 m⟩, 0) ∧ m.length ≤ 32 ∧ q.items.length ≤ 256 := by
  unfold BT.add at h ⊢
  split at h
  · cases h
  · rename_i h0
    obtain ⟨o1, o2, o3, o4⟩ := BT.ok_inv (q := q) (by simpa using h0)
    rw [if_neg h0]
    split at h
    · cases h
    · rename_i h1
      rw [if_neg h1]
      split at h
      · cases h
      · rename_i h2
        rw [if_neg h2]
        split at h
        · cases h
        · rename_i h3
          rw [if_neg h3]
          split at h
          · rename_i h4; exact absurd h h4
          · rename_i h4
            rw [if_neg h4]
            split at h
            · cases h
            · rename_i h5
              rw [if_neg h5]
              exact ⟨rfl, by omega, o3⟩
theorem add_bad {q : BT} {seq : Int} {m : List EvT} (h : (q.add seq m).2 ≠ 0) : (q.add seq m).1 = .nil := by
  unfold BT.add at h ⊢
  split
  · rfl
  · rename_i h0
    rw [if_neg h0] at h
    split
    · rfl
    · rename_i h1
      rw [if_neg h1] at h
      split
      · rfl
      · rename_i h2
        rw [if_neg h2] at h
        split
        · rfl
        · rename_i h3
          rw [if_neg h3] at h
          split
          · rfl
          · rename_i h4
            rw [if_neg h4] at h
            split
            · rfl
            · rename_i h5
              rw [if_neg h5] at h
              exact absurd rfl h
theorem add_cases (q : BT) (seq : Int) (m : List EvT) : ∃ x f, q.add seq m = (x, f) ∧ ((f ≠ 0 ∧ x = .nil) ∨ (f = 0 ∧ x = ⟨seq, q.items ++ numIt seq 0 m⟩ ∧ m.length ≤ 32 ∧ q.items.length ≤ 256)) := by
  refine ⟨_, _, rfl, ?_⟩
  by_cases h : (q.add seq m).2 = 0
  · obtain ⟨h1, h2, h3⟩ := add_inv h
    exact .inr ⟨h, congrArg Prod.fst h1, h2, h3⟩
  · exact .inl ⟨h, add_bad h⟩
def EvT.dfl : EvT := ⟨[], .nil⟩
theorem addAt {fr fr2 c2 : Bool} {q x : BT} {seq f : Int} {m : List EvT} (hw : q.wf) (hm : EvT.wfs m) (g : q.add seq m = (x, f)) : Fn Try.prog 54 [.agg (q.cs fr), .c (.int .i64 seq), .sl fr2 c2 eEv (EvT.css fr2 m)] (.tup [x.av, .c (.int .i64 f)]) := by
  have := badd_ok (fr := fr) (fr2 := fr2) (c2 := c2) (q := q) (m := m) Bc.self seq hw hm
  rwa [addAV_of g] at this
theorem numAt {fr : Bool} {l : List ItT} {seq : Int} {m : List EvT} {j : Nat} (h : j < m.length) : (ItT.css fr (l ++ numIt seq 0 m))[l.length + j]? = some (ItT.cs fr ⟨32 * seq + (j : Int), m[j]⟩) := by
  have := numIt_get (seq := seq) (m := m) (i := 0) h
  rw [Nat.zero_add] at this
  refine ItT.css_get fr ?_
  rw [List.getElem?_append_right (by omega), Nat.add_sub_cancel_left, this]
theorem outboxNumbers_ok {p q : BT} {m : List EvT} (hp : p.wf) (hq : q.wf) (hm : EvT.wfs m) : Fn Try.prog 16 [.agg (p.cs false), .agg (q.cs false), .sl false false eEv (EvT.css false m)] (.c (.bool true)) := by
  have hml := hm.len
  obtain ⟨la, l⟩ := p
  obtain ⟨lb, l2⟩ := q
  have hl1 := hp.l1
  have hl2 := hq.l1
  have hll := hp.it.len
  have hll2 := hq.it.len
  simp only at hl1 hl2 hll hll2
  obtain ⟨M, hM⟩ : ∃ M : Int, (if (0 : Int) > (if lb > la then lb else la) then 0 else (if lb > la then lb else la)) = M := ⟨_, rfl⟩
  obtain ⟨seq, hseq⟩ : ∃ s : Int, IntKind.i64.wrap ((if (549755813888 : Int) < M then 549755813888 else M) + 1) = s := ⟨_, rfl⟩
  have hs : 1 ≤ seq ∧ seq ≤ 549755813889 := by
    have hM0 : 0 ≤ M := by subst hM; (repeat' split) <;> omega
    subst hseq
    split
    · rw [w64 (by omega)]; omega
    · rw [w64 (by omega)]; omega
  obtain ⟨x, f1, g1, hc1⟩ := add_cases ⟨la, l⟩ seq m
  obtain ⟨y, f2, g2, hc2⟩ := add_cases ⟨lb, l2⟩ seq m
  obtain ⟨lx, xs⟩ := x
  obtain ⟨ly, ys⟩ := y
  refine AC.of_J Try.func16 rfl Try.ntmps16 rfl fun w0 A0 => ?_
  refine J.seq ?_
  refine J.region_lit ?_
  refine JL.box_agg (.tmp rfl) rfl fun b3 => ?_
  refine JL.box_agg (.tmp rfl) rfl fun b4 => ?_
  refine JL.q rfl rfl rfl (QW.assign .const) ?_
  refine JL.nil ?_
  refine thenQ.n ?_
  refine J.seq ?_
  refine J.seq ?_
  refine J.region_lit ?_
  refine JL.q rfl rfl rfl (QW.call gofn66 .nil (alive08_ok)) ?_
  refine JL.q rfl rfl rfl (QW.not (.tmp rfl)) ?_
  refine JL.nil ?_
  refine thenQ.n ?_
  refine J.cond (.tmp rfl) (fun c1 => ?_) (fun c1 => ?_)
  · skip
    exact absurd c1 (by simp)
    --closed
  · skip
    skip
    refine J.skip ?_
    refine thenQ.n ?_
    refine J.seq ?_
    refine J.region_lit ?_
    refine JL.q rfl rfl rfl (QW.field_ptr fo90_0 (.tmp rfl) rfl) ?_
    refine JL.q rfl rfl rfl (QW.load_box1 1 ty3 (.tmp rfl) rfl rfl) ?_
    refine JL.q rfl rfl rfl (QW.field_ptr fo90_0 (.tmp rfl) rfl) ?_
    refine JL.q rfl rfl rfl (QW.load_box1 0 ty3 (.tmp rfl) rfl rfl) ?_
    refine JL.q rfl rfl rfl (QW.max3 (.tmp rfl) (.tmp rfl) .const hM) ?_
    refine JL.q rfl rfl rfl (QW.min2 (.tmp rfl) .const) ?_
    refine JL.q rfl rfl rfl (QW.add (.tmp rfl) .const hseq) ?_
    refine JL.q rfl rfl rfl (QW.assign (.tmp rfl)) ?_
    refine JL.nil ?_
    refine thenQ.n ?_
    refine J.seq ?_
    refine J.region_lit ?_
    refine JL.q rfl rfl rfl (by first | exact QW.load_box 1 ty90 (.tmp rfl) rfl rfl rfl | exact QW.load_box 1 ty90 (.tmp rfl) rfl (take_at (BT.cs_length _ _) rfl) (BT.cs_length _ _)) ?_
    refine JL.q rfl rfl rfl (QW.call gofn52 (.cons (.tmp rfl) .nil) (of08_ok (q := ⟨la, l⟩) Bc.self hp)) ?_
    refine JL.q rfl rfl rfl (QW.move (.tmp rfl)) ?_
    refine JL.q rfl rfl rfl (QW.move (.tmp rfl)) ?_
    refine JL.q rfl rfl rfl (QW.call gofn54 (.cons (.tmp rfl) (.cons (.tmp rfl) (.cons (.tmp rfl) .nil))) (addAt hp hm g1)) ?_
    refine JL.q rfl rfl rfl (QW.move (.tmp rfl)) ?_
    refine JL.q rfl rfl rfl (QW.extract (.tmp rfl) rfl) ?_
    refine JL.q rfl rfl rfl (QW.extract (.tmp rfl) rfl) ?_
    refine JL.alloc z92 rfl rfl fun b8 => ?_
    first | refine JL.store_boxF 0 ty92 (.tmp rfl) rfl (.tmp rfl) (by first | rfl | assumption) (rfl) (rfl) rfl ?_ | refine JL.store_boxF 0 ty92 (.tmp rfl) rfl (.tmp rfl) (by first | rfl | assumption) (rfl) (BT.cs_length _ _) rfl ?_ | refine JL.store_boxF 0 ty92 (.tmp rfl) rfl (.tmp rfl) (by first | rfl | assumption) (BT.cs_length _ _) (rfl) rfl ?_ | refine JL.store_boxF 0 ty92 (.tmp rfl) rfl (.tmp rfl) (by first | rfl | assumption) (BT.cs_length _ _) (BT.cs_length _ _) rfl ?_ | refine JL.store_box 0 ty92 (.tmp rfl) rfl (.tmp rfl) (by first | rfl | assumption) rfl rfl rfl rfl ?_ | refine JL.store_box 0 ty92 (.tmp rfl) rfl (.tmp rfl) (by first | rfl | assumption) (BT.cs_length _ _) rfl rfl rfl ?_
    refine JL.q rfl rfl rfl (QW.assign (.tmp rfl)) ?_
    refine JL.nil ?_
    refine thenQ.n ?_
    refine J.seq ?_
    refine J.region_lit ?_
    refine JL.q rfl rfl rfl (by first | exact QW.load_box 1 ty90 (.tmp rfl) rfl rfl rfl | exact QW.load_box 1 ty90 (.tmp rfl) rfl (take_at (BT.cs_length _ _) rfl) (BT.cs_length _ _)) ?_
    refine JL.q rfl rfl rfl (QW.call gofn52 (.cons (.tmp rfl) .nil) (of08_ok (q := ⟨lb, l2⟩) Bc.self hq)) ?_
    refine JL.q rfl rfl rfl (QW.move (.tmp rfl)) ?_
    refine JL.q rfl rfl rfl (QW.move (.tmp rfl)) ?_
    refine JL.q rfl rfl rfl (QW.call gofn54 (.cons (.tmp rfl) (.cons (.tmp rfl) (.cons (.tmp rfl) .nil))) (addAt hq hm g2)) ?_
    refine JL.q rfl rfl rfl (QW.move (.tmp rfl)) ?_
    refine JL.q rfl rfl rfl (QW.extract (.tmp rfl) rfl) ?_
    refine JL.q rfl rfl rfl (QW.extract (.tmp rfl) rfl) ?_
    refine JL.alloc z92 rfl rfl fun b10 => ?_
    first | refine JL.store_boxF 0 ty92 (.tmp rfl) rfl (.tmp rfl) (by first | rfl | assumption) (rfl) (rfl) rfl ?_ | refine JL.store_boxF 0 ty92 (.tmp rfl) rfl (.tmp rfl) (by first | rfl | assumption) (rfl) (BT.cs_length _ _) rfl ?_ | refine JL.store_boxF 0 ty92 (.tmp rfl) rfl (.tmp rfl) (by first | rfl | assumption) (BT.cs_length _ _) (rfl) rfl ?_ | refine JL.store_boxF 0 ty92 (.tmp rfl) rfl (.tmp rfl) (by first | rfl | assumption) (BT.cs_length _ _) (BT.cs_length _ _) rfl ?_ | refine JL.store_box 0 ty92 (.tmp rfl) rfl (.tmp rfl) (by first | rfl | assumption) rfl rfl rfl rfl ?_ | refine JL.store_box 0 ty92 (.tmp rfl) rfl (.tmp rfl) (by first | rfl | assumption) (BT.cs_length _ _) rfl rfl rfl ?_
    refine JL.q rfl rfl rfl (QW.assign (.tmp rfl)) ?_
    refine JL.nil ?_
    refine thenQ.n ?_
    refine J.seq ?_
    refine J.seq ?_
    refine J.region_lit ?_
    refine JL.q rfl rfl rfl (QW.move (.tmp rfl)) ?_
    refine JL.q rfl rfl rfl (QW.call gofn61 (.cons (.tmp rfl) .nil) (num08_ok _)) ?_
    refine JL.q rfl rfl rfl (QW.neq (.tmp rfl) .const) ?_
    refine JL.q rfl rfl rfl (QW.move (.tmp rfl)) ?_
    refine JL.g rfl rfl rfl rfl rfl (fun hg => (QW.move (.tmp rfl))) ?_
    refine JL.g rfl rfl rfl rfl rfl (fun hg => (QW.call gofn61 (.cons (.when rfl hg) .nil) (num08_ok _))) ?_
    refine JL.g rfl rfl rfl rfl rfl (fun hg => (QW.neq (.when rfl hg) .const)) ?_
    refine JL.q rfl rfl rfl (QW.pick_or (.tmp rfl) (.tmp rfl)) ?_
    refine JL.nil ?_
    refine thenQ.n ?_
    refine J.cond (.tmp rfl) (fun c2 => ?_) (fun c2 => ?_)
    · skip
      skip
      refine J.seq ?_
      refine J.region_lit ?_
      refine JL.q rfl rfl rfl (QW.field_ptr fo92_1 (.tmp rfl) rfl) ?_
      refine JL.q rfl rfl rfl (QW.load_box1 1 ty88 (.tmp rfl) rfl rfl) ?_
      refine JL.q rfl rfl rfl (by first | exact QW.len_slE sl88 (.tmp rfl) (ItT.css_length _ _) | exact QW.len_slE sl88 (.tmp rfl) (EvT.css_length _ _) | exact QW.len_sl sl88 (.tmp rfl) | exact QW.len_nil sl88 (.tmp rfl)) ?_
      refine JL.q rfl rfl rfl (QW.eql (.tmp rfl) .const) ?_
      refine JL.q rfl rfl rfl (QW.move (.tmp rfl)) ?_
      refine JL.g rfl rfl rfl rfl rfl (fun hg => (QW.field_ptr fo92_1 (.tmp rfl) rfl)) ?_
      refine JL.g rfl rfl rfl rfl rfl (fun hg => (QW.load_box1 0 ty88 (.when rfl hg) rfl rfl)) ?_
      refine JL.g rfl rfl rfl rfl rfl (fun hg => (by first | exact QW.len_slE sl88 (.when rfl hg) (ItT.css_length _ _) | exact QW.len_slE sl88 (.when rfl hg) (EvT.css_length _ _) | exact QW.len_sl sl88 (.when rfl hg) | exact QW.len_nil sl88 (.when rfl hg))) ?_
      refine JL.g rfl rfl rfl rfl rfl (fun hg => (QW.eql (.when rfl hg) .const)) ?_
      refine JL.q rfl rfl rfl (QW.pick_or (.tmp rfl) (.tmp rfl)) ?_
      refine JL.q rfl rfl rfl (QW.assign (.tmp rfl)) ?_
      refine JL.nil ?_
      refine thenQ.n ?_
      refine J.ret ?_
      refine thenQ.r ?_
      have hz : xs.length = 0 ∨ ys.length = 0 := by
        simp at c2
        rcases Decidable.em (f1 = 0) with h0 | h0
        · have := (hc2.resolve_right (fun h => c2.elim (fun k => k h0) (fun k => k h.1))).2
          cases this; exact .inr rfl
        · have := (hc1.resolve_right (fun h => h0 h.1)).2
          cases this; exact .inl rfl
      exact ⟨_, selP [.k, .k, .k, .k] _, _, RetEv.one rfl (REv.tmp rfl (.refl _)), rfl, sel_perm [.k, .k, .k, .k] _, ⟨ret_b (by (simp only [Bool.or_eq_true, beq_iff_eq, iff_true]; omega)), rfl⟩⟩
    · skip
      simp at c2
      obtain ⟨rfl, rfl⟩ := c2
      obtain ⟨_, h3, h4, h5⟩ := hc1.resolve_left (fun h => h.1 rfl)
      obtain ⟨_, h6, _, h7⟩ := hc2.resolve_left (fun h => h.1 rfl)
      simp only [BT.mk.injEq] at h3 h6
      obtain ⟨h3a, rfl⟩ := h3
      obtain ⟨h6a, rfl⟩ := h6
      replace h3a := h3a.symm
      replace h6a := h6a.symm
      subst h3a
      subst h6a
      simp only at h4 h5 h7
      refine J.skip ?_
      refine thenQ.n ?_
      refine J.seq ?_
      refine J.region_lit ?_
      refine JL.q rfl rfl rfl (QW.move (.tmp rfl)) ?_
      refine JL.q rfl rfl rfl (by first | exact QW.len_slE sl91 (.tmp rfl) (ItT.css_length _ _) | exact QW.len_slE sl91 (.tmp rfl) (EvT.css_length _ _) | exact QW.len_sl sl91 (.tmp rfl) | exact QW.len_nil sl91 (.tmp rfl)) ?_
      refine JL.q rfl rfl rfl (QW.assign (.tmp rfl)) ?_
      refine JL.nil ?_
      refine thenQ.n ?_
      refine J.seq ?_
      refine J.seq ?_
      refine J.region_lit ?_
      refine JL.q rfl rfl rfl (QW.field_ptr fo92_1 (.tmp rfl) rfl) ?_
      refine JL.q rfl rfl rfl (QW.load_box1 1 ty88 (.tmp rfl) rfl rfl) ?_
      refine JL.q rfl rfl rfl (by first | exact QW.len_slE sl88 (.tmp rfl) (ItT.css_length _ _) | exact QW.len_slE sl88 (.tmp rfl) (EvT.css_length _ _) | exact QW.len_sl sl88 (.tmp rfl) | exact QW.len_nil sl88 (.tmp rfl)) ?_
      refine JL.q rfl rfl rfl (QW.field_ptr fo90_1 (.tmp rfl) rfl) ?_
      refine JL.q rfl rfl rfl (QW.load_box1 3 ty88 (.tmp rfl) rfl rfl) ?_
      refine JL.q rfl rfl rfl (by first | exact QW.len_slE sl88 (.tmp rfl) (ItT.css_length _ _) | exact QW.len_slE sl88 (.tmp rfl) (EvT.css_length _ _) | exact QW.len_sl sl88 (.tmp rfl) | exact QW.len_nil sl88 (.tmp rfl)) ?_
      refine JL.q rfl rfl rfl (QW.move (.tmp rfl)) ?_
      refine JL.q rfl rfl rfl (QW.add (.tmp rfl) (.tmp rfl) (w64n (m := l.length + m.length) (by omega) (by omega))) ?_
      refine JL.q rfl rfl rfl (QW.neq (.tmp rfl) (.tmp rfl)) ?_
      refine JL.q rfl rfl rfl (QW.move (.tmp rfl)) ?_
      refine JL.g rfl rfl rfl rfl rfl (fun hg => (QW.field_ptr fo92_1 (.tmp rfl) rfl)) ?_
      refine JL.g rfl rfl rfl rfl rfl (fun hg => (QW.load_box1 0 ty88 (.when rfl hg) rfl rfl)) ?_
      refine JL.g rfl rfl rfl rfl rfl (fun hg => (by first | exact QW.len_slE sl88 (.when rfl hg) (ItT.css_length _ _) | exact QW.len_slE sl88 (.when rfl hg) (EvT.css_length _ _) | exact QW.len_sl sl88 (.when rfl hg) | exact QW.len_nil sl88 (.when rfl hg))) ?_
      refine JL.g rfl rfl rfl rfl rfl (fun hg => (QW.field_ptr fo90_1 (.tmp rfl) rfl)) ?_
      refine JL.g rfl rfl rfl rfl rfl (fun hg => (QW.load_box1 2 ty88 (.when rfl hg) rfl rfl)) ?_
      refine JL.g rfl rfl rfl rfl rfl (fun hg => (by first | exact QW.len_slE sl88 (.when rfl hg) (ItT.css_length _ _) | exact QW.len_slE sl88 (.when rfl hg) (EvT.css_length _ _) | exact QW.len_sl sl88 (.when rfl hg) | exact QW.len_nil sl88 (.when rfl hg))) ?_
      refine JL.g rfl rfl rfl rfl rfl (fun hg => (QW.move (.tmp rfl))) ?_
      refine JL.g rfl rfl rfl rfl rfl (fun hg => (QW.add (.when rfl hg) (.when rfl hg) (w64n (m := l2.length + m.length) (by omega) (by omega)))) ?_
      refine JL.g rfl rfl rfl rfl rfl (fun hg => (QW.neq (.when rfl hg) (.when rfl hg))) ?_
      refine JL.q rfl rfl rfl (QW.pick_or (.tmp rfl) (.tmp rfl)) ?_
      refine JL.nil ?_
      refine thenQ.n ?_
      refine J.cond (.tmp rfl) (fun c3 => ?_) (fun c3 => ?_)
      · skip
        exact absurd c3 (by simp [numIt_length])
        --closed
      · skip
        skip
        refine J.skip ?_
        refine thenQ.n ?_
        refine J.seq ?_
        refine J.seq ?_
        refine J.region_lit ?_
        refine JL.q rfl rfl rfl (QW.assign .const) ?_
        refine JL.nil ?_
        refine thenQ.n ?_
        refine J.block ?_
        refine J.loopK (ι := Nat) [2, 3, 4, 7, 8, 10, 12] (fun j => [(13, .c (.int .i64 (j : Int)))]) (fun _ oo => oo) (fun j => j ≤ m.length) (fun j => m.length - j) 0 (Nat.zero_le _) (Wk.re (.cons rfl (.refl _) (.cons rfl (.refl _) (.cons rfl (.refl _) (.cons rfl (.refl _) (.cons rfl (.refl _) (.cons rfl (.refl _) (.cons rfl (.refl _) (.cons rfl (.refl _) .nil)))))))) (Reown.refl _) (fun _ h => by first | exact h | simp [h])) ?_
        intro j hj
        refine J.conv (by (try simp only [stepsO, List.map_cons, List.map_nil, valO, nthO, curO, mrg, List.reverse_cons, List.reverse_nil, List.nil_append, List.cons_append, List.append_nil, List.getElem?_cons_zero, List.getElem?_cons_succ, Option.map_some, Option.getD_some, List.set_cons_zero, List.set_cons_succ, AV.cellsOf, splice_zero, splice_succ, Nat.zero_add, Nat.reduceAdd]); rfl) ?_
        refine J.seq ?_
        refine J.seq ?_
        refine J.region_lit ?_
        refine JL.q rfl rfl rfl (QW.move (.tmp rfl)) ?_
        refine JL.q rfl rfl rfl (QW.move (.tmp rfl)) ?_
        refine JL.q rfl rfl rfl (QW.lss (.tmp rfl) (.tmp rfl)) ?_
        refine JL.nil ?_
        refine thenQ.n ?_
        refine J.cond (.tmp rfl) (fun c4 => ?_) (fun c4 => ?_)
        · skip
          have hlt : j < m.length := by simpa [EvT.css_length] using c4
          refine J.skip ?_
          refine thenQ.n ?_
          refine J.seq ?_
          refine J.block ?_
          refine J.seq ?_
          refine J.region_outAK 21 2 (fun os_ ow_ x_ o_ => match os_ with | [] => (∃ b_, x_ = .c (.pointer (some ⟨b_, 0, none⟩)) ∧ o_ = ow_ ++ [.box b_ ([.int .i64 0, str [], .int .i64 0, .int .u64 0, str [], .slice none 0 0, .slice none 0 0].map AV.c)]) | [(x0_, _)] => (∃ b_, x0_ = .c (.pointer (some ⟨b_, 0, none⟩)) ∧ x_ = .c undef ∧ o_ = ow_.set 4 (.box b_ (ItT.cs true ⟨32 * seq + (j : Int), m[j]'hlt⟩))) | _ => False) mixed (by kernel_rfl) (by kernel_rfl) (by kernel_rfl) rfl ?_
          refine OutA.quiet [] rfl rfl rfl (fun qs_ ex_ qv_ ql_ => (.q rfl (QW.field_ptr fo92_1 (.tmp rfl) rfl))) ?_
          refine OutA.quiet [86] rfl rfl rfl (fun qs_ ex_ qv_ ql_ => by
              rcases qs_ with _ | ⟨⟨y0, p0⟩, qs_⟩
              · skip
                exact (.q rfl (QW.load_box1 1 ty88 (.tmp rfl) rfl rfl))
              rcases qs_ with _ | ⟨⟨y1, p1⟩, qs_⟩
              · skip
                obtain ⟨hr0, _⟩ := qv_
                obtain ⟨b14, rfl, rfl⟩ := hr0
                exact (.q rfl (QW.load_box1 1 ty88 (.tmp rfl) rfl rfl))
              rcases qs_ with _ | ⟨⟨y2, p2⟩, qs_⟩
              · skip
                obtain ⟨hr1, hr0, _⟩ := qv_
                obtain ⟨b14, rfl, rfl⟩ := hr0
                obtain ⟨_, ⟨⟩, rfl, rfl⟩ := hr1
                exact (.q rfl (QW.load_box1 1 ty88 (.tmp rfl) rfl rfl))
              exact absurd ql_ (by simp)) ?_
          refine OutA.quiet [] rfl rfl rfl (fun qs_ ex_ qv_ ql_ => (.q rfl (QW.field_ptr fo90_1 (.tmp rfl) rfl))) ?_
          refine OutA.quiet [88] rfl rfl rfl (fun qs_ ex_ qv_ ql_ => by
              rcases qs_ with _ | ⟨⟨y0, p0⟩, qs_⟩
              · skip
                exact (.q rfl (QW.load_box1 3 ty88 (.tmp rfl) rfl rfl))
              rcases qs_ with _ | ⟨⟨y1, p1⟩, qs_⟩
              · skip
                obtain ⟨hr0, _⟩ := qv_
                obtain ⟨b14, rfl, rfl⟩ := hr0
                exact (.q rfl (QW.load_box1 3 ty88 (.tmp rfl) rfl rfl))
              rcases qs_ with _ | ⟨⟨y2, p2⟩, qs_⟩
              · skip
                obtain ⟨hr1, hr0, _⟩ := qv_
                obtain ⟨b14, rfl, rfl⟩ := hr0
                obtain ⟨_, ⟨⟩, rfl, rfl⟩ := hr1
                exact (.q rfl (QW.load_box1 3 ty88 (.tmp rfl) rfl rfl))
              exact absurd ql_ (by simp)) ?_
          refine OutA.quiet [89] rfl rfl rfl (fun qs_ ex_ qv_ ql_ => (.q rfl (by first | exact QW.len_slE sl88 (.tmp rfl) (ItT.css_length _ _) | exact QW.len_slE sl88 (.tmp rfl) (EvT.css_length _ _) | exact QW.len_sl sl88 (.tmp rfl) | exact QW.len_nil sl88 (.tmp rfl)))) ?_
          refine OutA.quiet [] rfl rfl rfl (fun qs_ ex_ qv_ ql_ => (.q rfl (QW.move (.tmp rfl)))) ?_
          refine OutA.quiet [90, 91] rfl rfl rfl (fun qs_ ex_ qv_ ql_ => (.q rfl (QW.add (.tmp rfl) (.tmp rfl) (w64n (m := l.length + j) (by omega) (by omega))))) ?_
          refine OutA.quiet [87, 92] rfl rfl rfl (fun qs_ ex_ qv_ ql_ => (.q rfl (QW.index_sl sl88 ty116 rfl (.tmp rfl) (.tmp rfl) (by first | rfl | omega | (simp; done)) (by exact numAt hlt)))) ?_
          refine OutA.quiet [93] rfl rfl rfl (fun qs_ ex_ qv_ ql_ => (.q rfl (by first | exact QW.load_ref ty116 (.tmp rfl) rfl rfl | exact QW.load_ref ty116 (.tmp rfl) (take_at0 (ItT.cs_length _ _) rfl) (ItT.cs_length _ _)))) ?_
          refine OutA.quiet [] rfl rfl rfl (fun qs_ ex_ qv_ ql_ => (.q rfl (QW.field_ptr fo92_1 (.tmp rfl) rfl))) ?_
          refine OutA.quiet [95] rfl rfl rfl (fun qs_ ex_ qv_ ql_ => by
              rcases qs_ with _ | ⟨⟨y0, p0⟩, qs_⟩
              · skip
                exact (.q rfl (QW.load_box1 0 ty88 (.tmp rfl) rfl rfl))
              rcases qs_ with _ | ⟨⟨y1, p1⟩, qs_⟩
              · skip
                obtain ⟨hr0, _⟩ := qv_
                obtain ⟨b14, rfl, rfl⟩ := hr0
                exact (.q rfl (QW.load_box1 0 ty88 (.tmp rfl) rfl rfl))
              rcases qs_ with _ | ⟨⟨y2, p2⟩, qs_⟩
              · skip
                obtain ⟨hr1, hr0, _⟩ := qv_
                obtain ⟨b14, rfl, rfl⟩ := hr0
                obtain ⟨_, ⟨⟩, rfl, rfl⟩ := hr1
                exact (.q rfl (QW.load_box1 0 ty88 (.tmp rfl) rfl rfl))
              exact absurd ql_ (by simp)) ?_
          refine OutA.quiet [] rfl rfl rfl (fun qs_ ex_ qv_ ql_ => (.q rfl (QW.field_ptr fo90_1 (.tmp rfl) rfl))) ?_
          refine OutA.quiet [97] rfl rfl rfl (fun qs_ ex_ qv_ ql_ => by
              rcases qs_ with _ | ⟨⟨y0, p0⟩, qs_⟩
              · skip
                exact (.q rfl (QW.load_box1 2 ty88 (.tmp rfl) rfl rfl))
              rcases qs_ with _ | ⟨⟨y1, p1⟩, qs_⟩
              · skip
                obtain ⟨hr0, _⟩ := qv_
                obtain ⟨b14, rfl, rfl⟩ := hr0
                exact (.q rfl (QW.load_box1 2 ty88 (.tmp rfl) rfl rfl))
              rcases qs_ with _ | ⟨⟨y2, p2⟩, qs_⟩
              · skip
                obtain ⟨hr1, hr0, _⟩ := qv_
                obtain ⟨b14, rfl, rfl⟩ := hr0
                obtain ⟨_, ⟨⟩, rfl, rfl⟩ := hr1
                exact (.q rfl (QW.load_box1 2 ty88 (.tmp rfl) rfl rfl))
              exact absurd ql_ (by simp)) ?_
          refine OutA.quiet [98] rfl rfl rfl (fun qs_ ex_ qv_ ql_ => (.q rfl (by first | exact QW.len_slE sl88 (.tmp rfl) (ItT.css_length _ _) | exact QW.len_slE sl88 (.tmp rfl) (EvT.css_length _ _) | exact QW.len_sl sl88 (.tmp rfl) | exact QW.len_nil sl88 (.tmp rfl)))) ?_
          refine OutA.quiet [] rfl rfl rfl (fun qs_ ex_ qv_ ql_ => (.q rfl (QW.move (.tmp rfl)))) ?_
          refine OutA.quiet [99, 100] rfl rfl rfl (fun qs_ ex_ qv_ ql_ => (.q rfl (QW.add (.tmp rfl) (.tmp rfl) (w64n (m := l2.length + j) (by omega) (by omega))))) ?_
          refine OutA.quiet [96, 101] rfl rfl rfl (fun qs_ ex_ qv_ ql_ => (.q rfl (QW.index_sl sl88 ty116 rfl (.tmp rfl) (.tmp rfl) (by first | rfl | omega | (simp; done)) (by exact numAt hlt)))) ?_
          refine OutA.quiet [102] rfl rfl rfl (fun qs_ ex_ qv_ ql_ => (.q rfl (by first | exact QW.load_ref ty116 (.tmp rfl) rfl rfl | exact QW.load_ref ty116 (.tmp rfl) (take_at0 (ItT.cs_length _ _) rfl) (ItT.cs_length _ _)))) ?_
          refine OutA.loud [] rfl rfl rfl rfl rfl (fun qs_ ex_ qv_ ql_ => by
              obtain rfl : qs_ = [] := List.length_eq_zero_iff.1 ql_
              exact (LStepR.alloc (d := 14) z116 rfl).frame (fun x o h => by obtain ⟨b, h1, h2⟩ := h; exact ⟨_, by (rw [h2]; exact perm_mid _ _ _), b, h1, rfl⟩)) ?_
          refine OutA.alloc (AllocOp.mk z116 rfl) rfl ?_
          refine OutA.store [14, 94] rfl (fun qs_ ow x o h ql_ => by
              obtain ⟨⟨y0, p0⟩, qs_, rfl⟩ : ∃ p t, qs_ = p :: t := by (cases qs_ with | nil => simp at ql_ | cons p t => exact ⟨p, t, rfl⟩)
              obtain rfl : qs_ = [] := List.length_eq_zero_iff.1 (by simpa using ql_)
              exact h.elim fun _ h => h.2.1) rfl rfl rfl (fun qs_ ex_ qv_ ql_ => by
              obtain ⟨⟨y0, p0⟩, qs_, rfl⟩ : ∃ p t, qs_ = p :: t := by (cases qs_ with | nil => simp at ql_ | cons p t => exact ⟨p, t, rfl⟩)
              obtain rfl : qs_ = [] := List.length_eq_zero_iff.1 (by simpa using ql_)
              obtain ⟨hr0, _⟩ := qv_
              obtain ⟨b14, rfl, rfl⟩ := hr0
              exact (by refine LStepR.frame (ex := ex_) (R := fun ow_ x_ o_ => ∃ b_, AV.c (.pointer (some ⟨b14, 0, none⟩)) = .c (.pointer (some ⟨b_, 0, none⟩)) ∧ x_ = .c undef ∧ o_ = ow_.set 4 (.box b_ (ItT.cs true ⟨32 * seq + (j : Int), m[j]'hlt⟩)))  ?_ (fun x o h => by (obtain ⟨b, h0, h1, h2⟩ := h; exact ⟨_, by (rw [h2]; exact .refl _), b, h0, h1, rfl⟩)); exact (by refine LStep.toR rfl (own' := List.set _ 4 (.box b14 (ItT.cs true ⟨32 * seq + (j : Int), m[j]'hlt⟩))) ?_ ⟨_, rfl, rfl, rfl⟩; first | exact LStep.store_boxF 4 ty116 (.tmp rfl) rfl (.tmp rfl) (by first | rfl | assumption) (rfl) (rfl) rfl | exact LStep.store_boxF 4 ty116 (.tmp rfl) rfl (.tmp rfl) (by first | rfl | assumption) (rfl) (by exact ItT.cs_length _ _) rfl | exact LStep.store_boxF 4 ty116 (.tmp rfl) rfl (.tmp rfl) (by first | rfl | assumption) (by exact ItT.cs_length _ _) (rfl) rfl | exact LStep.store_boxF 4 ty116 (.tmp rfl) rfl (.tmp rfl) (by first | rfl | assumption) (by exact ItT.cs_length _ _) (by exact ItT.cs_length _ _) rfl | exact LStep.store_box 4 ty116 (.tmp rfl) rfl (.tmp rfl) (by first | rfl | assumption) rfl rfl rfl rfl | exact LStep.store_box 4 ty116 (.tmp rfl) rfl (.tmp rfl) (by first | rfl | assumption) (ItT.cs_length _ _) rfl rfl rfl))) ?_
          refine .nil fun qs_ bs_ qv_ ql_ => ?_
          obtain ⟨⟨y1, p1⟩, qs_, rfl⟩ : ∃ p t, qs_ = p :: t := by (cases qs_ with | nil => simp at ql_ | cons p t => exact ⟨p, t, rfl⟩)
          simp only [List.length_cons, Nat.add_right_cancel_iff] at ql_
          obtain ⟨⟨y0, p0⟩, qs_, rfl⟩ : ∃ p t, qs_ = p :: t := by (cases qs_ with | nil => simp at ql_ | cons p t => exact ⟨p, t, rfl⟩)
          obtain rfl : qs_ = [] := List.length_eq_zero_iff.1 (by simpa using ql_)
          obtain ⟨hr1, hr0, _⟩ := qv_
          obtain ⟨b14, rfl, rfl⟩ := hr0
          obtain ⟨_, ⟨⟩, rfl, rfl⟩ := hr1
          refine JL.conv (by (try simp only [stepsO, List.map_cons, List.map_nil, valO, nthO, curO, mrg, List.reverse_cons, List.reverse_nil, List.nil_append, List.cons_append, List.append_nil, List.getElem?_cons_zero, List.getElem?_cons_succ, Option.map_some, Option.getD_some, List.set_cons_zero, List.set_cons_succ, AV.cellsOf, splice_zero, splice_succ, Nat.zero_add, Nat.reduceAdd, alE, alO]); rfl) ?_
          first | refine JL.store_boxF 5 ty116 (.tmp rfl) rfl (.tmp rfl) (by first | rfl | assumption) (rfl) (rfl) rfl ?_ | refine JL.store_boxF 5 ty116 (.tmp rfl) rfl (.tmp rfl) (by first | rfl | assumption) (rfl) (ItT.cs_length _ _) rfl ?_ | refine JL.store_boxF 5 ty116 (.tmp rfl) rfl (.tmp rfl) (by first | rfl | assumption) (ItT.cs_length _ _) (rfl) rfl ?_ | refine JL.store_boxF 5 ty116 (.tmp rfl) rfl (.tmp rfl) (by first | rfl | assumption) (ItT.cs_length _ _) (ItT.cs_length _ _) rfl ?_ | refine JL.store_box 5 ty116 (.tmp rfl) rfl (.tmp rfl) (by first | rfl | assumption) rfl rfl rfl rfl ?_ | refine JL.store_box 5 ty116 (.tmp rfl) rfl (.tmp rfl) (by first | rfl | assumption) (ItT.cs_length _ _) rfl rfl rfl ?_
          refine JL.nil ?_
          refine thenQ.n ?_
          refine J.seq ?_
          refine J.region_tailK 34 mixed (by kernel_rfl) (by kernel_rfl) (by kernel_rfl) rfl ?_
          refine .cons [] rfl rfl rfl (.q rfl (QW.field_ptr fo116_0 (.tmp rfl) rfl)) ?_
          refine .cons [104] rfl rfl rfl (.q rfl (QW.load_box1 4 ty3 (.tmp rfl) rfl rfl)) ?_
          refine .cons [] rfl rfl rfl (.q rfl (QW.move (.tmp rfl))) ?_
          refine .cons [106] rfl rfl rfl (.q rfl (QW.mul .const (.tmp rfl) (by first | exact w64n (by first | rfl | omega | (simp; done)) (by omega) | exact w64 (by omega) | rfl))) ?_
          refine .cons [] rfl rfl rfl (.q rfl (QW.move (.tmp rfl))) ?_
          refine .cons [107, 108] rfl rfl rfl (.q rfl (QW.add (.tmp rfl) (.tmp rfl) (by first | exact w64n (by first | rfl | omega | (simp; done)) (by omega) | exact w64 (by omega) | rfl))) ?_
          refine .cons [105, 109] rfl rfl rfl (.q rfl (QW.neq (.tmp rfl) (.tmp rfl))) ?_
          refine .cons [110] rfl rfl rfl (.q rfl (QW.move (.tmp rfl))) ?_
          refine .cons [111] rfl rfl rfl (.g rfl rfl rfl (fun hg => (QW.field_ptr fo116_0 (.tmp rfl) rfl))) ?_
          refine .cons [112, 111] rfl rfl rfl (.g rfl rfl rfl (fun hg => (QW.load_box1 5 ty3 (.when rfl hg) rfl rfl))) ?_
          refine .cons [111] rfl rfl rfl (.g rfl rfl rfl (fun hg => (QW.field_ptr fo116_0 (.tmp rfl) rfl))) ?_
          refine .cons [114, 111] rfl rfl rfl (.g rfl rfl rfl (fun hg => (QW.load_box1 4 ty3 (.when rfl hg) rfl rfl))) ?_
          refine .cons [113, 115, 111] rfl rfl rfl (.g rfl rfl rfl (fun hg => (QW.neq (.when rfl hg) (.when rfl hg)))) ?_
          refine .cons [111, 116] rfl rfl rfl (.q rfl (QW.pick_or (.tmp rfl) (.tmp rfl))) ?_
          refine .cons [117] rfl rfl rfl (.q rfl (QW.move (.tmp rfl))) ?_
          refine .cons [118] rfl rfl rfl (.g rfl rfl rfl (fun hg => (QW.field_ptr fo116_1 (.tmp rfl) rfl))) ?_
          refine .cons [119, 118] rfl rfl rfl (.g rfl rfl rfl (fun hg => (QW.field_ptr fo114_0 (.when rfl hg) rfl))) ?_
          refine .cons [120, 118] rfl rfl rfl (.g rfl rfl rfl (fun hg => (QW.load_box1 4 ty9 (.when rfl hg) rfl rfl))) ?_
          refine .cons [118] rfl rfl rfl (.g rfl rfl rfl (fun hg => (QW.move (.tmp rfl)))) ?_
          refine .cons [118] rfl rfl rfl (.g rfl rfl rfl (fun hg => (QW.move (.tmp rfl)))) ?_
          refine .cons [122, 123, 118] rfl rfl rfl (.g rfl rfl rfl (fun hg => (QW.index_sl sl91 ty114 rfl (.when rfl hg) (.when rfl hg) (by first | rfl | omega | (simp; done)) (by exact EvT.css_getE _ hlt)))) ?_
          refine .cons [124, 118] rfl rfl rfl (.g rfl rfl rfl (fun hg => (QW.field_ref fo114_0 (.when rfl hg) rfl))) ?_
          refine .cons [125, 118] rfl rfl rfl (.g rfl rfl rfl (fun hg => (QW.load_ref1 ty9 (.when rfl hg) rfl))) ?_
          refine .cons [121, 126, 118] rfl rfl rfl (.g rfl rfl rfl (fun hg => (QW.neq_s (.when rfl hg) (.when rfl hg)))) ?_
          refine .cons [118, 127] rfl rfl rfl (.q rfl (QW.pick_or (.tmp rfl) (.tmp rfl))) ?_
          refine .cons [128] rfl rfl rfl (.q rfl (QW.move (.tmp rfl))) ?_
          refine .cons [129] rfl rfl rfl (.g rfl rfl rfl (fun hg => (QW.field_ptr fo116_1 (.tmp rfl) rfl))) ?_
          refine .cons [130, 129] rfl rfl rfl (.g rfl rfl rfl (fun hg => (QW.field_ptr fo114_1 (.when rfl hg) rfl))) ?_
          refine .cons [131, 129] rfl rfl rfl (.g rfl rfl rfl (fun hg => (by first | exact QW.load_box 4 ty26 (.when rfl hg) rfl rfl rfl | exact QW.load_box 4 ty26 (.when rfl hg) rfl (take_at (V.cs_length _ _) rfl) (V.cs_length _ _)))) ?_
          refine .cons [129] rfl rfl rfl (.g rfl rfl rfl (fun hg => (QW.move (.tmp rfl)))) ?_
          refine .cons [129] rfl rfl rfl (.g rfl rfl rfl (fun hg => (QW.move (.tmp rfl)))) ?_
          refine .cons [133, 134, 129] rfl rfl rfl (.g rfl rfl rfl (fun hg => (QW.index_sl sl91 ty114 rfl (.when rfl hg) (.when rfl hg) (by first | rfl | omega | (simp; done)) (by exact EvT.css_getE _ hlt)))) ?_
          refine .cons [135, 129] rfl rfl rfl (.g rfl rfl rfl (fun hg => (QW.field_ref fo114_1 (.when rfl hg) rfl))) ?_
          refine .cons [136, 129] rfl rfl rfl (.g rfl rfl rfl (fun hg => (by first | exact QW.load_ref ty26 (.when rfl hg) rfl rfl | exact QW.load_ref ty26 (.when rfl hg) (take_at0 (V.cs_length _ _) rfl) (V.cs_length _ _)))) ?_
          refine .nil ?_
          refine JL.g rfl rfl rfl rfl rfl (fun hg => (QW.call gofn26 (.cons (.when rfl hg) (.cons (.when rfl hg) .nil)) (sameValue_ok Vc.self Vc.self (hm.2 _ (List.getElem_mem hlt)).arg (hm.2 _ (List.getElem_mem hlt)).arg))) ?_
          refine JL.g rfl rfl rfl rfl rfl (fun hg => (QW.not (.when rfl hg))) ?_
          refine JL.q rfl rfl rfl (QW.pick_or (.tmp rfl) (.tmp rfl)) ?_
          refine JL.nil ?_
          refine thenQ.n ?_
          refine J.cond (.tmp rfl) (fun c5 => ?_) (fun c5 => ?_)
          · skip
            exact absurd c5 (by simp [V.same_refl])
            --closed
          · skip
            skip
            refine J.skip ?_
            refine blkQ.n ?_
            refine thenQ.n ?_
            refine J.region_lit ?_
            refine JL.q rfl rfl rfl (QW.move (.tmp rfl)) ?_
            refine JL.q rfl rfl rfl (QW.add (.tmp rfl) .const (by first | exact w64n (by first | rfl | omega | (simp; done)) (by omega) | exact w64 (by omega) | rfl)) ?_
            refine JL.q rfl rfl rfl (QW.assign (.tmp rfl)) ?_
            refine JL.nil ?_
            refine thenQ.n ?_
            exact ⟨j + 1, hlt, by omega, Wk.re (.cons rfl (.refl _) (.cons rfl (.refl _) (.cons rfl (.refl _) (.cons rfl (.refl _) (.cons rfl (.refl _) (.cons rfl (.refl _) (.cons rfl (.refl _) (.cons rfl (.refl _) .nil)))))))) (Reown.msk [.p, .p, .p, .p] _ rfl) (fun _ h => by first | exact h | simp [h])⟩
        · skip
          skip
          refine J.exit ?_
          refine thenQ.x ?_
          refine thenQ.x ?_
          refine blkQ.hit ?_
          refine thenQ.n ?_
          refine J.seq ?_
          refine J.region_lit ?_
          refine JL.q rfl rfl rfl (QW.assign .const) ?_
          refine JL.nil ?_
          refine thenQ.n ?_
          refine J.ret ?_
          exact ⟨_, selP [.k, .k, .k, .k] _, _, RetEv.one rfl (REv.tmp rfl (.refl _)), rfl, sel_perm [.k, .k, .k, .k] _, ⟨rfl, rfl⟩⟩
end Go.Proofs.Ytkiankpmkglhcaa.J

