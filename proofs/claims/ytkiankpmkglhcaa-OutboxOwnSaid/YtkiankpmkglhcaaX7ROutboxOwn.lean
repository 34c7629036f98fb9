/- Texts of this proof, laid together. -/
import Derived.Test.YtkiankpmkglhcaaX6ROutboxOwn
/- Walks: binary search among items; an acknowledgement. -/
namespace Go.Proofs.Ytkiankpmkglhcaa.J
open Go Go.RowKit
set_option linter.unusedVariables false
set_option linter.unusedSimpArgs false
set_option maxRecDepth 10000
set_option maxHeartbeats 4000000

def ItT.dfl : ItT := ⟨0, ⟨[], .nil⟩⟩
theorem ItT.css_getD {fr : Bool} {l : List ItT} {i : Nat} (h : i < l.length) : (ItT.css fr l)[i]? = some (ItT.cs fr (l.getD i ItT.dfl)) := by
  rw [ItT.css_getE fr h]
  simp [List.getD, h]
theorem found_eq {l : List ItT} {k : Nat} {n : Int} : (decide (∃ x, l[k]? = some x ∧ x.id = n)) = (decide ((k : Int) < (l.length : Int)) && ((if (l.getD k ItT.dfl).id < n then (-1 : Int) else if n < (l.getD k ItT.dfl).id then 1 else 0) == 0)) := by
  by_cases hk : k < l.length
  · rw [Bool.eq_iff_iff]
    simp [hk, List.getD]
    constructor
    · rintro rfl; simp
    · intro h; split at h <;> first | omega | (split at h <;> omega)
  · rw [Bool.eq_iff_iff]
    simp [hk]

theorem fdiv2 {lo hi : Nat} : ((lo : Int) + (hi : Int)).fdiv (2 ^ (min (1 : Int).toNat IntKind.u64.bits)) = (((lo + hi) / 2 : Nat) : Int) := by
  rw [show (2 : Int) ^ (min (1 : Int).toNat IntKind.u64.bits) = 2 from rfl, Int.fdiv_eq_ediv_of_nonneg _ (by decide)]
  omega

theorem nanInt_ok (n : Int) : Fn Try.prog 126 [.c (.int .i64 n)] (.c (.bool false)) := by
  refine AC.of_J Try.func126 rfl Try.ntmps126 rfl fun w0 A0 => ?_
  refine J.seq ?_
  refine J.region_lit ?_
  refine JL.q rfl rfl rfl (QW.assign .const) ?_
  refine JL.nil ?_
  refine thenQ.n ?_
  refine J.seq ?_
  refine J.region_lit ?_
  refine JL.q rfl rfl rfl (QW.move (.tmp rfl)) ?_
  refine JL.q rfl rfl rfl (QW.move (.tmp rfl)) ?_
  refine JL.q rfl rfl rfl (QW.neq (.tmp rfl) (.tmp rfl)) ?_
  refine JL.q rfl rfl rfl (QW.assign (.tmp rfl)) ?_
  refine JL.nil ?_
  refine thenQ.n ?_
  refine J.ret ?_
  exact ⟨_, selP [] _, _, RetEv.one rfl (REv.tmp rfl (.refl _)), rfl, sel_perm [] _, ⟨ret_b (by simp), rfl⟩⟩

theorem cmpInt_ok (a b : Int) : Fn Try.prog 102 [.c (.int .i64 a), .c (.int .i64 b)] (.c (.int .i64 (if a < b then -1 else if b < a then 1 else 0))) := by
  refine AC.of_J Try.func102 rfl Try.ntmps102 rfl fun w0 A0 => ?_
  refine J.seq ?_
  refine J.region_lit ?_
  refine JL.q rfl rfl rfl (QW.assign .const) ?_
  refine JL.nil ?_
  refine thenQ.n ?_
  refine J.seq ?_
  refine J.region_lit ?_
  refine JL.q rfl rfl rfl (QW.move (.tmp rfl)) ?_
  refine JL.q rfl rfl rfl (QW.call gofn126 (.cons (.tmp rfl) .nil) (nanInt_ok _)) ?_
  refine JL.q rfl rfl rfl (QW.assign (.tmp rfl)) ?_
  refine JL.nil ?_
  refine thenQ.n ?_
  refine J.seq ?_
  refine J.region_lit ?_
  refine JL.q rfl rfl rfl (QW.move (.tmp rfl)) ?_
  refine JL.q rfl rfl rfl (QW.call gofn126 (.cons (.tmp rfl) .nil) (nanInt_ok _)) ?_
  refine JL.q rfl rfl rfl (QW.assign (.tmp rfl)) ?_
  refine JL.nil ?_
  refine thenQ.n ?_
  refine J.seq ?_
  refine J.seq ?_
  refine J.region_lit ?_
  refine JL.q rfl rfl rfl (QW.move (.tmp rfl)) ?_
  refine JL.nil ?_
  refine thenQ.n ?_
  refine J.cond (.tmp rfl) (fun c1 => absurd c1 (by simp)) (fun c1 => ?_)
  refine J.skip ?_
  refine thenQ.n ?_
  refine J.seq ?_
  refine J.seq ?_
  refine J.region_lit ?_
  refine JL.q rfl rfl rfl (QW.move (.tmp rfl)) ?_
  refine JL.nil ?_
  refine thenQ.n ?_
  refine J.cond (.tmp rfl) (fun c2 => absurd c2 (by simp)) (fun c2 => ?_)
  refine J.skip ?_
  refine thenQ.n ?_
  refine J.seq ?_
  refine J.seq ?_
  refine J.region_lit ?_
  refine JL.q rfl rfl rfl (QW.move (.tmp rfl)) ?_
  refine JL.q rfl rfl rfl (QW.move (.tmp rfl)) ?_
  refine JL.q rfl rfl rfl (QW.lss (.tmp rfl) (.tmp rfl)) ?_
  refine JL.nil ?_
  refine thenQ.n ?_
  refine J.cond (.tmp rfl) (fun c3 => ?_) (fun c3 => ?_)
  · skip
    simp at c3
    refine J.seq ?_
    refine J.region_lit ?_
    refine JL.q rfl rfl rfl (QW.assign .const) ?_
    refine JL.nil ?_
    refine thenQ.n ?_
    refine J.ret ?_
    refine thenQ.r ?_
    exact ⟨_, selP [] _, _, RetEv.one rfl (REv.tmp rfl (.refl _)), rfl, sel_perm [] _, ⟨by rw [if_pos c3], rfl⟩⟩
  · skip
    simp at c3
    refine J.skip ?_
    refine thenQ.n ?_
    refine J.seq ?_
    refine J.seq ?_
    refine J.region_lit ?_
    refine JL.q rfl rfl rfl (QW.move (.tmp rfl)) ?_
    refine JL.q rfl rfl rfl (QW.move (.tmp rfl)) ?_
    refine JL.q rfl rfl rfl (QW.gtr (.tmp rfl) (.tmp rfl)) ?_
    refine JL.nil ?_
    refine thenQ.n ?_
    refine J.cond (.tmp rfl) (fun c4 => ?_) (fun c4 => ?_)
    · skip
      simp at c4
      refine J.seq ?_
      refine J.region_lit ?_
      refine JL.q rfl rfl rfl (QW.assign .const) ?_
      refine JL.nil ?_
      refine thenQ.n ?_
      refine J.ret ?_
      refine thenQ.r ?_
      exact ⟨_, selP [] _, _, RetEv.one rfl (REv.tmp rfl (.refl _)), rfl, sel_perm [] _, ⟨by rw [if_neg (by omega), if_pos (by omega)], rfl⟩⟩
    · skip
      simp at c4
      refine J.skip ?_
      refine thenQ.n ?_
      refine J.seq ?_
      refine J.region_lit ?_
      refine JL.q rfl rfl rfl (QW.assign .const) ?_
      refine JL.nil ?_
      refine thenQ.n ?_
      refine J.ret ?_
      exact ⟨_, selP [] _, _, RetEv.one rfl (REv.tmp rfl (.refl _)), rfl, sel_perm [] _, ⟨by rw [if_neg (by omega), if_neg (by omega)], rfl⟩⟩

theorem ackCmp_ok {fr : Bool} (e : ItT) (n : Int) : Fn Try.prog 101 [.agg (e.cs fr), .c (.int .i64 n)] (.c (.int .i64 (if e.id < n then -1 else if n < e.id then 1 else 0))) := by
  refine AC.of_J Try.func101 rfl Try.ntmps101 rfl fun w0 A0 => ?_
  refine J.seq ?_
  refine J.region_lit ?_
  refine JL.box_agg (.tmp rfl) rfl fun b2 => ?_
  refine JL.q rfl rfl rfl (QW.assign .const) ?_
  refine JL.nil ?_
  refine thenQ.n ?_
  refine J.seq ?_
  refine J.region_lit ?_
  refine JL.q rfl rfl rfl (QW.field_ptr fo116_0 (.tmp rfl) rfl) ?_
  refine JL.q rfl rfl rfl (QW.load_box1 0 ty3 (.tmp rfl) rfl rfl) ?_
  refine JL.q rfl rfl rfl (QW.move (.tmp rfl)) ?_
  refine JL.q rfl rfl rfl (QW.call gofn102 (.cons (.tmp rfl) (.cons (.tmp rfl) .nil)) (cmpInt_ok _ _)) ?_
  refine JL.q rfl rfl rfl (QW.assign (.tmp rfl)) ?_
  refine JL.nil ?_
  refine thenQ.n ?_
  refine J.ret ?_
  exact ⟨_, selP [.k] _, _, RetEv.one rfl (REv.tmp rfl (.refl _)), rfl, sel_perm [.k] _, ⟨rfl, rfl⟩⟩

theorem bsf_ok {fr c : Bool} {l : List ItT} {n : Int} {k : Nat} (hl : l.length ≤ 1000) (hk : k ≤ l.length) (h1 : ∀ i (h : i < l.length), i < k → l[i].id < n) (h2 : ∀ i (h : i < l.length), k ≤ i → n ≤ l[i].id) : Fn Try.prog 100 [.sl fr c eIt (ItT.css fr l), .c (.int .i64 n), .c (.func (.func 101) #[] #[])] (.tup [.c (.int .i64 (k : Int)), .c (.bool (decide (∃ x, l[k]? = some x ∧ x.id = n)))]) := by
  refine AC.of_J Try.func100 rfl Try.ntmps100 rfl fun w0 A0 => ?_
  refine J.seq ?_
  refine J.region_lit ?_
  refine JL.q rfl rfl rfl (QW.assign .const) ?_
  refine JL.q rfl rfl rfl (QW.assign .const) ?_
  refine JL.nil ?_
  refine thenQ.n ?_
  refine J.seq ?_
  refine J.region_lit ?_
  refine JL.q rfl rfl rfl (QW.move (.tmp rfl)) ?_
  refine JL.q rfl rfl rfl (by first | exact QW.len_slE sl88 (.tmp rfl) (ItT.css_length _ _) | exact QW.len_slE sl88 (.tmp rfl) (EvT.css_length _ _) | exact QW.len_sl sl88 (.tmp rfl) | exact QW.len_nil sl88 (.tmp rfl)) ?_
  refine JL.q rfl rfl rfl (QW.assign (.tmp rfl)) ?_
  refine JL.nil ?_
  refine thenQ.n ?_
  refine J.seq ?_
  refine J.region_lit ?_
  refine JL.q rfl rfl rfl (QW.move (.tmp rfl)) ?_
  refine JL.q rfl rfl rfl (QW.assign .const) ?_
  refine JL.q rfl rfl rfl (QW.assign (.tmp rfl)) ?_
  refine JL.nil ?_
  refine thenQ.n ?_
  refine J.seq ?_
  refine J.block ?_
  refine J.loopK (ι := Nat × Nat) [0, 1, 2, 6, 7, 8] (fun ⟨lo, hi⟩ => [(9, .c (.int .i64 (lo : Int))), (10, .c (.int .i64 (hi : Int)))]) (fun _ oo => oo) (fun ⟨lo, hi⟩ => lo ≤ k ∧ k ≤ hi ∧ hi ≤ l.length) (fun ⟨lo, hi⟩ => hi - lo) ⟨0, l.length⟩ (⟨Nat.zero_le _, hk, Nat.le_refl _⟩) (Wk.re (.cons rfl (.refl _) (.cons rfl (.refl _) (.cons rfl (.refl _) (.cons rfl (.refl _) (.cons rfl (.refl _) (.cons rfl (.refl _) (.cons rfl (.refl _) (.cons rfl (.refl _) .nil)))))))) (Reown.refl _) (fun _ h => by first | exact h | simp [h])) ?_
  intro ⟨lo, hi⟩ ⟨ha, hb, hc⟩
  refine J.conv (by (try simp only [stepsO, List.map_cons, List.map_nil, valO, nthO, curO, mrg, List.reverse_cons, List.reverse_nil, List.nil_append, List.cons_append, List.append_nil, List.getElem?_cons_zero, List.getElem?_cons_succ, Option.map_some, Option.getD_some, List.set_cons_zero, List.set_cons_succ, AV.cellsOf, splice_zero, splice_succ, Nat.zero_add, Nat.reduceAdd]); rfl) ?_
  refine J.seq ?_
  refine J.seq ?_
  refine J.region_lit ?_
  refine JL.q rfl rfl rfl (QW.move (.tmp rfl)) ?_
  refine JL.q rfl rfl rfl (QW.move (.tmp rfl)) ?_
  refine JL.q rfl rfl rfl (QW.lss (.tmp rfl) (.tmp rfl)) ?_
  refine JL.nil ?_
  refine thenQ.n ?_
  refine J.cond (.tmp rfl) (fun c1 => ?_) (fun c1 => ?_)
  · skip
    have hlt : lo < hi := by simpa using c1
    refine J.skip ?_
    refine thenQ.n ?_
    refine J.block ?_
    refine J.seq ?_
    refine J.region_lit ?_
    refine JL.q rfl rfl rfl (QW.move (.tmp rfl)) ?_
    refine JL.q rfl rfl rfl (QW.move (.tmp rfl)) ?_
    refine JL.q rfl rfl rfl (QW.add (.tmp rfl) (.tmp rfl) (by first | exact w64n (by first | rfl | omega | (simp; done)) (by omega) | exact w64 (by omega) | rfl)) ?_
    refine JL.q rfl rfl rfl (QW.conv_int us3 iu170 (.tmp rfl) (by first | exact wu64 (by omega) | rfl)) ?_
    refine JL.q rfl rfl rfl (QW.shr (.tmp rfl) .const (by decide) fdiv2) ?_
    refine JL.q rfl rfl rfl (QW.conv_int us170 iu3 (.tmp rfl) (by first | exact w64n (by first | rfl | omega | (simp; done)) (by omega) | exact w64 (by omega) | rfl)) ?_
    refine JL.q rfl rfl rfl (QW.assign (.tmp rfl)) ?_
    refine JL.nil ?_
    refine thenQ.n ?_
    refine J.seq ?_
    refine J.region_lit ?_
    refine JL.q rfl rfl rfl (QW.move (.tmp rfl)) ?_
    refine JL.q rfl rfl rfl (QW.move (.tmp rfl)) ?_
    refine JL.q rfl rfl rfl (QW.move (.tmp rfl)) ?_
    refine JL.q rfl rfl rfl (QW.index_sl sl88 ty116 rfl (.tmp rfl) (.tmp rfl) (by first | rfl | omega | (simp; done)) (by exact ItT.css_getE (l := l) _ (i := (lo + hi) / 2) (by omega))) ?_
    refine JL.q rfl rfl rfl (by first | exact QW.load_ref ty116 (.tmp rfl) rfl rfl | exact QW.load_ref ty116 (.tmp rfl) (take_at0 (ItT.cs_length _ _) rfl) (ItT.cs_length _ _)) ?_
    refine JL.q rfl rfl rfl (QW.move (.tmp rfl)) ?_
    refine JL.q rfl rfl rfl (QW.callV gofn101 (.tmp rfl) (.cons (.tmp rfl) (.cons (.tmp rfl) .nil)) rfl (ackCmp_ok _ _)) ?_
    refine JL.q rfl rfl rfl (QW.lss (.tmp rfl) .const) ?_
    refine JL.nil ?_
    refine thenQ.n ?_
    refine J.cond (.tmp rfl) (fun c2 => ?_) (fun c2 => ?_)
    · skip
      have hm : (l[(lo + hi) / 2]'(by omega)).id < n := by (simp at c2; split at c2 <;> first | assumption | omega | (split at c2 <;> omega))
      refine J.region_lit ?_
      refine JL.q rfl rfl rfl (QW.move (.tmp rfl)) ?_
      refine JL.q rfl rfl rfl (QW.add (.tmp rfl) .const (by first | exact w64n (by first | rfl | omega | (simp; done)) (by omega) | exact w64 (by omega) | rfl)) ?_
      refine JL.q rfl rfl rfl (QW.assign (.tmp rfl)) ?_
      refine JL.nil ?_
      refine blkQ.n ?_
      refine thenQ.n ?_
      exact ⟨⟨(lo + hi) / 2 + 1, hi⟩, ⟨Nat.lt_of_not_le fun h => absurd (h2 _ (by omega) h) (by omega), hb, hc⟩, by show hi - ((lo + hi) / 2 + 1) < hi - lo; omega, Wk.re (.cons rfl (.refl _) (.cons rfl (.refl _) (.cons rfl (.refl _) (.cons rfl (.refl _) (.cons rfl (.refl _) (.cons rfl (.refl _) (.cons rfl (.refl _) (.cons rfl (.refl _) .nil)))))))) (Reown.refl _) (fun _ h => by first | exact h | simp [h])⟩
    · skip
      have hm : n ≤ (l[(lo + hi) / 2]'(by omega)).id := by (simp at c2; split at c2 <;> first | omega | (split at c2 <;> omega))
      refine J.region_lit ?_
      refine JL.q rfl rfl rfl (QW.move (.tmp rfl)) ?_
      refine JL.q rfl rfl rfl (QW.assign (.tmp rfl)) ?_
      refine JL.nil ?_
      refine blkQ.n ?_
      refine thenQ.n ?_
      exact ⟨⟨lo, (lo + hi) / 2⟩, ⟨ha, Nat.le_of_not_lt fun h => absurd (h1 _ (by omega) h) (by omega), by omega⟩, by show (lo + hi) / 2 - lo < hi - lo; omega, Wk.re (.cons rfl (.refl _) (.cons rfl (.refl _) (.cons rfl (.refl _) (.cons rfl (.refl _) (.cons rfl (.refl _) (.cons rfl (.refl _) (.cons rfl (.refl _) (.cons rfl (.refl _) .nil)))))))) (Reown.refl _) (fun _ h => by first | exact h | simp [h])⟩
  · skip
    have hge : hi ≤ lo := by simpa using c1
    refine J.exit ?_
    refine thenQ.x ?_
    refine thenQ.x ?_
    refine blkQ.hit ?_
    refine thenQ.n ?_
    refine J.seq ?_
    refine J.region_lit ?_
    refine JL.q rfl rfl rfl (QW.move (.tmp rfl)) ?_
    refine JL.q rfl rfl rfl (QW.move (.tmp rfl)) ?_
    refine JL.q rfl rfl rfl (QW.move (.tmp rfl)) ?_
    refine JL.q rfl rfl rfl (QW.lss (.tmp rfl) (.tmp rfl)) ?_
    refine JL.q rfl rfl rfl (QW.move (.tmp rfl)) ?_
    refine JL.g rfl rfl rfl rfl rfl (fun hg => (QW.move (.tmp rfl))) ?_
    refine JL.g rfl rfl rfl rfl rfl (fun hg => (QW.move (.tmp rfl))) ?_
    refine JL.g rfl rfl rfl rfl rfl (fun hg => (QW.move (.tmp rfl))) ?_
    refine JL.g rfl rfl rfl rfl rfl (fun hg => (QW.index_sl sl88 ty116 rfl (.when rfl hg) (.when rfl hg) (by first | rfl | omega | (simp; done)) (by exact ItT.css_getD (by simp [ItT.css_length] at hg; omega)))) ?_
    refine JL.g rfl rfl rfl rfl rfl (fun hg => (by first | exact QW.load_ref ty116 (.when rfl hg) rfl rfl | exact QW.load_ref ty116 (.when rfl hg) (take_at0 (ItT.cs_length _ _) rfl) (ItT.cs_length _ _))) ?_
    refine JL.g rfl rfl rfl rfl rfl (fun hg => (QW.move (.tmp rfl))) ?_
    refine JL.g rfl rfl rfl rfl rfl (fun hg => (QW.callV gofn101 (.when rfl hg) (.cons (.when rfl hg) (.cons (.when rfl hg) .nil)) rfl (ackCmp_ok _ _))) ?_
    refine JL.g rfl rfl rfl rfl rfl (fun hg => (QW.eql (.when rfl hg) .const)) ?_
    refine JL.q rfl rfl rfl (QW.pick_and (.tmp rfl) (.tmp rfl)) ?_
    refine JL.q rfl rfl rfl (QW.assign (.tmp rfl)) ?_
    refine JL.q rfl rfl rfl (QW.assign (.tmp rfl)) ?_
    refine JL.nil ?_
    refine thenQ.n ?_
    refine J.ret ?_
    obtain rfl : lo = k := by omega
    exact ⟨_, selP [] _, _, RetEv.two rfl (REv.tmp rfl (.refl _)) (REv.tmp rfl (.refl _)), rfl, sel_perm [] _, ⟨by rw [found_eq], rfl⟩⟩

theorem idsOk_all {la : Int} : ∀ {l : List ItT} {p : Int}, idsOk la p l = true → List.Pairwise (fun a b => a.id < b.id) l ∧ (∀ x ∈ l, p < x.id ∧ x.id < 32 * (la + 1) ∧ evOk x.ev = true)
  | [], p, _ => ⟨.nil, fun x h => by cases h⟩
  | x :: r, p, h => by
    simp only [idsOk, Bool.and_eq_true, decide_eq_true_eq] at h
    obtain ⟨⟨⟨h1, h2⟩, h3⟩, h4⟩ := h
    obtain ⟨g1, g2⟩ := idsOk_all h4
    refine ⟨List.pairwise_cons.2 ⟨fun y hy => (g2 y hy).1, g1⟩, fun y hy => ?_⟩
    rcases List.mem_cons.1 hy with rfl | hy
    · exact ⟨h1, h2, h3⟩
    · have := g2 y hy
      exact ⟨by omega, this.2⟩
theorem low_ix {n : Int} : ∀ {l : List ItT}, List.Pairwise (fun a b => a.id < b.id) l → ∃ k, k ≤ l.length ∧ (∀ i (h : i < l.length), i < k → l[i].id < n) ∧ (∀ i (h : i < l.length), k ≤ i → n ≤ l[i].id)
  | [], _ => ⟨0, Nat.le_refl _, fun i h => by simp at h, fun i h => by simp at h⟩
  | x :: r, hp => by
    obtain ⟨hx, hr⟩ := List.pairwise_cons.1 hp
    by_cases h : x.id < n
    · obtain ⟨k, h1, h2, h3⟩ := low_ix (n := n) hr
      refine ⟨k + 1, by simpa using h1, fun i hi hik => ?_, fun i hi hik => ?_⟩
      · cases i with
        | zero => simpa using h
        | succ i => simpa using h2 i (by simpa using hi) (by omega)
      · cases i with
        | zero => omega
        | succ i => simpa using h3 i (by simpa using hi) (by omega)
    · refine ⟨0, Nat.zero_le _, fun i _ hi => absurd hi (Nat.not_lt_zero _), fun i hi _ => ?_⟩
      cases i with
      | zero => simp; omega
      | succ i =>
        have := hx _ (List.getElem_mem (l := r) (n := i) (by simpa using hi))
        simp; omega
theorem filter_all {n : Int} {l : List ItT} (h : ∀ x ∈ l, x.id ≠ n) : l.filter (fun x => decide (x.id ≠ n)) = l ∧ (l.any fun x => decide (x.id = n)) = false := by
  refine ⟨List.filter_eq_self.2 fun x hx => by simpa using h x hx, ?_⟩
  rw [Bool.eq_false_iff]
  intro hh
  obtain ⟨x, hx, hx2⟩ := List.any_eq_true.1 hh
  exact h x hx (by simpa using hx2)
theorem ack_found {n : Int} {l : List ItT} {k : Nat} (hp : List.Pairwise (fun a b => a.id < b.id) l) (hk : k < l.length) (he : l[k].id = n) : l.filter (fun x => decide (x.id ≠ n)) = l.take k ++ l.drop (k + 1) ∧ (l.any fun x => decide (x.id = n)) = true := by
  have hs : l = l.take k ++ l[k] :: l.drop (k + 1) := by rw [← List.drop_eq_getElem_cons hk, List.take_append_drop]
  have hp2 := hp
  rw [hs] at hp2
  obtain ⟨_, h2, h3⟩ := List.pairwise_append.1 hp2
  obtain ⟨h4, _⟩ := List.pairwise_cons.1 h2
  refine ⟨?_, List.any_eq_true.2 ⟨l[k], List.getElem_mem hk, by simpa using he⟩⟩
  conv => lhs; rw [hs]
  rw [List.filter_append, List.filter_cons, if_neg (by simpa using he)]
  rw [(filter_all (n := n) (l := l.take k) fun x hx => by have := h3 x hx l[k] (List.mem_cons_self); omega).1, (filter_all (n := n) (l := l.drop (k + 1)) fun x hx => by have := h4 x hx; omega).1]
theorem ack_none {n : Int} {l : List ItT} {k : Nat} (h1 : ∀ i (h : i < l.length), i < k → l[i].id < n) (h2 : ∀ i (h : i < l.length), k ≤ i → n ≤ l[i].id) (hp : List.Pairwise (fun a b => a.id < b.id) l) (hn : ¬ ∃ x, l[k]? = some x ∧ x.id = n) : l.filter (fun x => decide (x.id ≠ n)) = l ∧ (l.any fun x => decide (x.id = n)) = false := by
  refine filter_all fun x hx he => ?_
  obtain ⟨i, hi, rfl⟩ := List.getElem_of_mem hx
  rcases Nat.lt_trichotomy i k with h | h | h
  · have := h1 i hi h; omega
  · subst h; exact hn ⟨_, List.getElem?_eq_getElem hi, he⟩
  · have hk : k < l.length := by omega
    have g1 := h2 k hk (Nat.le_refl _)
    have g2 := List.pairwise_iff_getElem.1 hp k i hk hi h
    omega

theorem back_ok {fr : Bool} {q : BT} {ys : List AV} (hq : Bc fr q ys) (id : Int) (hw : q.wf) : Fn Try.prog 56 [.agg ys, .c (.int .i64 id)] (ackAV q id) := by
  obtain ⟨la, l⟩ := q
  subst hq
  obtain ⟨hl1, hit⟩ := hw
  have hw : (BT.mk la l).wf := ⟨hl1, hit⟩
  simp only at hl1 hit
  have hlen := hit.len
  refine AC.of_J Try.func56 rfl Try.ntmps56 rfl fun w0 A0 => ?_
  refine J.seq ?_
  refine J.region_lit ?_
  refine JL.box_agg (.tmp rfl) rfl fun b2 => ?_
  refine JL.alloc z92 rfl rfl fun b4 => ?_
  refine JL.q rfl rfl rfl (QW.assign .const) ?_
  refine JL.q rfl rfl rfl (QW.assign .const) ?_
  refine JL.nil ?_
  refine thenQ.n ?_
  refine J.seq ?_
  refine J.seq ?_
  refine J.region_lit ?_
  refine JL.q rfl rfl rfl (by first | exact QW.load_box 1 ty92 (.tmp rfl) rfl rfl rfl | exact QW.load_box 1 ty92 (.tmp rfl) rfl (take_at (BT.cs_length _ _) rfl) (BT.cs_length _ _)) ?_
  refine JL.q rfl rfl rfl (QW.call gofn63 (.cons (.tmp rfl) .nil) (bcheck_ok Bc.mk hw)) ?_
  refine JL.q rfl rfl rfl (QW.assign (.tmp rfl)) ?_
  refine JL.nil ?_
  refine thenQ.n ?_
  refine J.seq ?_
  refine J.region_lit ?_
  refine JL.q rfl rfl rfl (QW.move (.tmp rfl)) ?_
  refine JL.q rfl rfl rfl (QW.neq (.tmp rfl) .const) ?_
  refine JL.nil ?_
  refine thenQ.n ?_
  refine J.cond (.tmp rfl) (fun c1 => ?_) (fun c1 => ?_)
  · skip
    simp at c1
    obtain ⟨hno, he9⟩ := BT.err_no c1
    refine J.seq ?_
    refine J.region_lit ?_
    refine JL.q rfl rfl rfl (QW.build (idx := []) pl92 z92 rfl .nil rfl rfl rfl rfl) ?_
    refine JL.q rfl rfl rfl (QW.move (.tmp rfl)) ?_
    first | refine JL.store_boxF 0 ty92 (.tmp rfl) rfl (.tmp rfl) (by first | rfl | assumption) (rfl) (rfl) rfl ?_ | refine JL.store_boxF 0 ty92 (.tmp rfl) rfl (.tmp rfl) (by first | rfl | assumption) (rfl) (BT.cs_length _ _) rfl ?_ | refine JL.store_boxF 0 ty92 (.tmp rfl) rfl (.tmp rfl) (by first | rfl | assumption) (BT.cs_length _ _) (rfl) rfl ?_ | refine JL.store_boxF 0 ty92 (.tmp rfl) rfl (.tmp rfl) (by first | rfl | assumption) (BT.cs_length _ _) (BT.cs_length _ _) rfl ?_ | refine JL.store_box 0 ty92 (.tmp rfl) rfl (.tmp rfl) (by first | rfl | assumption) rfl rfl rfl rfl ?_ | refine JL.store_box 0 ty92 (.tmp rfl) rfl (.tmp rfl) (by first | rfl | assumption) (BT.cs_length _ _) rfl rfl rfl ?_
    refine JL.q rfl rfl rfl (QW.assign .const) ?_
    refine JL.q rfl rfl rfl (QW.assign (.tmp rfl)) ?_
    refine JL.nil ?_
    refine thenQ.n ?_
    refine J.ret ?_
    refine thenQ.r ?_
    exact ⟨_, selP [.k, .k] _, _, RetEv.three rfl (by first | exact REv.cell 0 ty92 rfl rfl rfl rfl (.aggL (.cons (.refl _) (.cons (.nil true false eIt) .nil))) | exact REv.cell 0 ty92 rfl rfl (take_at (BT.cs_length _ _) rfl) (BT.cs_length _ _) (.aggL (.cons (.refl _) (.cons (.nil true false eIt) .nil)))) (REv.tmp rfl (.refl _)) (REv.tmp rfl (.refl _)), rfl, sel_perm [.k, .k] _, ⟨congrArg Res.ret (ackAV_of (q := ⟨la, l⟩) (id := id) (q' := .nil) (b := false) (f := (BT.mk la l).err) (by simp [BT.ack, hno, he9])).symm, rfl⟩⟩
  · skip
    simp at c1
    have hok := BT.err_ok.1 c1
    obtain ⟨o1, o2, o3, o4⟩ := BT.ok_inv hok
    simp only at o1 o2 o3 o4
    obtain ⟨hpw, hal⟩ := idsOk_all o4
    refine J.skip ?_
    refine thenQ.n ?_
    refine J.seq ?_
    refine J.seq ?_
    refine J.region_lit ?_
    refine JL.q rfl rfl rfl (QW.move (.tmp rfl)) ?_
    refine JL.q rfl rfl rfl (QW.lss (.tmp rfl) .const) ?_
    refine JL.q rfl rfl rfl (QW.move (.tmp rfl)) ?_
    refine JL.g rfl rfl rfl rfl rfl (fun hg => (QW.move (.tmp rfl))) ?_
    refine JL.g rfl rfl rfl rfl rfl (fun hg => (QW.field_ptr fo92_0 (.tmp rfl) rfl)) ?_
    refine JL.g rfl rfl rfl rfl rfl (fun hg => (QW.load_box1 1 ty3 (.when rfl hg) rfl rfl)) ?_
    refine JL.g rfl rfl rfl rfl rfl (fun hg => (QW.add (.when rfl hg) .const (by first | exact w64n (by first | rfl | omega | (simp; done)) (by omega) | exact w64 (by omega) | rfl))) ?_
    refine JL.g rfl rfl rfl rfl rfl (fun hg => (QW.mul .const (.when rfl hg) (by first | exact w64n (by first | rfl | omega | (simp; done)) (by omega) | exact w64 (by omega) | rfl))) ?_
    refine JL.g rfl rfl rfl rfl rfl (fun hg => (QW.geq (.when rfl hg) (.when rfl hg))) ?_
    refine JL.q rfl rfl rfl (QW.pick_or (.tmp rfl) (.tmp rfl)) ?_
    refine JL.nil ?_
    refine thenQ.n ?_
    refine J.cond (.tmp rfl) (fun c2 => ?_) (fun c2 => ?_)
    · skip
      simp at c2
      refine J.seq ?_
      refine J.region_lit ?_
      refine JL.q rfl rfl rfl (QW.build (idx := []) pl92 z92 rfl .nil rfl rfl rfl rfl) ?_
      first | refine JL.store_boxF 0 ty92 (.tmp rfl) rfl (.tmp rfl) (by first | rfl | assumption) (rfl) (rfl) rfl ?_ | refine JL.store_boxF 0 ty92 (.tmp rfl) rfl (.tmp rfl) (by first | rfl | assumption) (rfl) (BT.cs_length _ _) rfl ?_ | refine JL.store_boxF 0 ty92 (.tmp rfl) rfl (.tmp rfl) (by first | rfl | assumption) (BT.cs_length _ _) (rfl) rfl ?_ | refine JL.store_boxF 0 ty92 (.tmp rfl) rfl (.tmp rfl) (by first | rfl | assumption) (BT.cs_length _ _) (BT.cs_length _ _) rfl ?_ | refine JL.store_box 0 ty92 (.tmp rfl) rfl (.tmp rfl) (by first | rfl | assumption) rfl rfl rfl rfl ?_ | refine JL.store_box 0 ty92 (.tmp rfl) rfl (.tmp rfl) (by first | rfl | assumption) (BT.cs_length _ _) rfl rfl rfl ?_
      refine JL.q rfl rfl rfl (QW.assign .const) ?_
      refine JL.q rfl rfl rfl (QW.assign .const) ?_
      refine JL.nil ?_
      refine thenQ.n ?_
      refine J.ret ?_
      refine thenQ.r ?_
      exact ⟨_, selP [.k, .k] _, _, RetEv.three rfl (by first | exact REv.cell 0 ty92 rfl rfl rfl rfl (.aggL (.cons (.refl _) (.cons (.nil true false eIt) .nil))) | exact REv.cell 0 ty92 rfl rfl (take_at (BT.cs_length _ _) rfl) (BT.cs_length _ _) (.aggL (.cons (.refl _) (.cons (.nil true false eIt) .nil)))) (REv.tmp rfl (.refl _)) (REv.tmp rfl (.refl _)), rfl, sel_perm [.k, .k] _, ⟨congrArg Res.ret (ackAV_of (q := ⟨la, l⟩) (id := id) (q' := .nil) (b := false) (f := 4) (by unfold BT.ack; rw [if_neg (by simp [hok]), if_pos (by (try simp only); omega)])).symm, rfl⟩⟩
    · skip
      simp at c2
      refine J.skip ?_
      refine thenQ.n ?_
      refine J.seq ?_
      refine J.region_lit ?_
      refine JL.q rfl rfl rfl (by first | exact QW.load_box 1 ty92 (.tmp rfl) rfl rfl rfl | exact QW.load_box 1 ty92 (.tmp rfl) rfl (take_at (BT.cs_length _ _) rfl) (BT.cs_length _ _)) ?_
      refine JL.callRF [] gofn97 rfl Lent.nil (fun _ => (.cons (.tmp rfl) .nil)) (bclone_own Bc.mk hw) (.inl rfl) fun x28 o28 h28 => ?_
      obtain ⟨v28, rfl, hs28, rfl⟩ := h28
      first | refine JL.store_boxF 1 ty92 (.tmp rfl) rfl (.tmp rfl) (by first | rfl | assumption) (rfl) (rfl) rfl ?_ | refine JL.store_boxF 1 ty92 (.tmp rfl) rfl (.tmp rfl) (by first | rfl | assumption) (rfl) (BT.cs_length _ _) rfl ?_ | refine JL.store_boxF 1 ty92 (.tmp rfl) rfl (.tmp rfl) (by first | rfl | assumption) (BT.cs_length _ _) (rfl) rfl ?_ | refine JL.store_boxF 1 ty92 (.tmp rfl) rfl (.tmp rfl) (by first | rfl | assumption) (BT.cs_length _ _) (BT.cs_length _ _) rfl ?_ | refine JL.store_box 1 ty92 (.tmp rfl) rfl (.tmp rfl) (by first | rfl | assumption) rfl rfl rfl rfl ?_ | refine JL.store_box 1 ty92 (.tmp rfl) rfl (.tmp rfl) (by first | rfl | assumption) (BT.cs_length _ _) rfl rfl rfl ?_
      refine JL.nil ?_
      refine thenQ.n ?_
      refine J.seq ?_
      obtain ⟨k, hk, h1, h2⟩ := low_ix (n := id) hpw
      refine J.region_lit ?_
      refine JL.q rfl rfl rfl (QW.field_ptr fo92_1 (.tmp rfl) rfl) ?_
      refine JL.q rfl rfl rfl (QW.load_box1 1 ty88 (.tmp rfl) rfl rfl) ?_
      refine JL.q rfl rfl rfl (QW.move (.tmp rfl)) ?_
      refine JL.q rfl rfl rfl (QW.callLF [.k, .k, .l] gofn100 (Lent.cons (Lent.arr (by rw [ItT.css_length]; exact hit.1)) Lent.nil) rfl rfl (fun _ => (.cons (Ev.le (.tmp rfl) (.fact (.head _) (.slL (fun h => h) (by rw [ItT.css_length, ItT.css_length]) (ItT.css_sz false l) (ItT.css_le true false (fun h => by cases h) l)))) (.cons (.tmp rfl) (.cons .func .nil)))) (bsf_ok (fr := false) (c := false) (by omega) hk h1 h2) (.tup (FlL.cons (.c _) (FlL.cons (.c _) .nil)))) ?_
      refine JL.q rfl rfl rfl (QW.move (.tmp rfl)) ?_
      refine JL.q rfl rfl rfl (QW.extract (.tmp rfl) rfl) ?_
      refine JL.q rfl rfl rfl (QW.extract (.tmp rfl) rfl) ?_
      refine JL.q rfl rfl rfl (QW.assign (.tmp rfl)) ?_
      refine JL.q rfl rfl rfl (QW.assign (.tmp rfl)) ?_
      refine JL.nil ?_
      refine thenQ.n ?_
      refine J.seq ?_
      refine J.seq ?_
      refine J.region_lit ?_
      refine JL.q rfl rfl rfl (QW.move (.tmp rfl)) ?_
      refine JL.nil ?_
      refine thenQ.n ?_
      refine J.cond (.tmp rfl) (fun c3 => ?_) (fun c3 => ?_)
      · skip
        obtain ⟨x, hx1, hx2⟩ := of_decide_eq_true c3
        obtain ⟨hkl, hx3⟩ := List.getElem?_eq_some_iff.1 hx1
        subst hx3
        obtain ⟨f1, f2⟩ := ack_found hpw hkl hx2
        refine J.region_lit ?_
        refine JL.q rfl rfl rfl (QW.field_ptr fo92_1 (.tmp rfl) rfl) ?_
        refine JL.q rfl rfl rfl (QW.load_box1 1 ty88 (.tmp rfl) rfl rfl) ?_
        refine JL.q rfl rfl rfl (QW.move (.tmp rfl)) ?_
        refine JL.q rfl rfl rfl (QW.move (.tmp rfl)) ?_
        refine JL.q rfl rfl rfl (QW.add (.tmp rfl) .const (by first | exact w64n (by first | rfl | omega | (simp; done)) (by omega) | exact w64 (by omega) | rfl)) ?_
        refine JL.callRF [.k, .k, .p] gofn103 rfl Lent.nil (fun _ => (.cons (.tmp rfl) (.cons (.tmp rfl) (.cons (.tmp rfl) .nil)))) (delIt_ok (by rw [ItT.css_length]; exact hkl) (by rw [ItT.css_length]; exact hit.1)) (.inl rfl) fun x42 o42 h42 => ?_
        obtain ⟨v42, rfl, hs42, rfl⟩ := h42
        refine JL.q rfl rfl rfl (QW.field_ptr fo92_1 (.tmp rfl) rfl) ?_
        refine JL.store_box 1 ty88 (.tmp rfl) rfl (.tmp rfl) (by first | rfl | assumption) rfl rfl rfl rfl ?_
        refine JL.nil ?_
        refine thenQ.n ?_
        refine J.seq ?_
        refine J.closeArr 2 rfl (by first | (rw [ItT.css_length]; exact hit.1) | (rw [List.length_append, List.length_take, List.length_drop, ItT.css_length]; have := hit.1; show _ * 104 ≤ _; unfold reach at *; omega)) rfl (fun _ h => by cases h) ?_
        refine J.region_lit ?_
        refine JL.q rfl rfl rfl (by first | exact QW.load_box 1 ty92 (.tmp rfl) rfl rfl rfl | exact QW.load_box 1 ty92 (.tmp rfl) rfl (take_at (BT.cs_length _ _) rfl) (BT.cs_length _ _)) ?_
        refine JL.q rfl rfl rfl (QW.move (.tmp rfl)) ?_
        first | refine JL.store_boxF 0 ty92 (.tmp rfl) rfl (.tmp rfl) (by first | rfl | assumption) (rfl) (rfl) rfl ?_ | refine JL.store_boxF 0 ty92 (.tmp rfl) rfl (.tmp rfl) (by first | rfl | assumption) (rfl) (BT.cs_length _ _) rfl ?_ | refine JL.store_boxF 0 ty92 (.tmp rfl) rfl (.tmp rfl) (by first | rfl | assumption) (BT.cs_length _ _) (rfl) rfl ?_ | refine JL.store_boxF 0 ty92 (.tmp rfl) rfl (.tmp rfl) (by first | rfl | assumption) (BT.cs_length _ _) (BT.cs_length _ _) rfl ?_ | refine JL.store_box 0 ty92 (.tmp rfl) rfl (.tmp rfl) (by first | rfl | assumption) rfl rfl rfl rfl ?_ | refine JL.store_box 0 ty92 (.tmp rfl) rfl (.tmp rfl) (by first | rfl | assumption) (BT.cs_length _ _) rfl rfl rfl ?_
        refine JL.q rfl rfl rfl (QW.assign (.tmp rfl)) ?_
        refine JL.q rfl rfl rfl (QW.assign .const) ?_
        refine JL.nil ?_
        refine thenQ.n ?_
        refine J.ret ?_
        exact ⟨_, selP [.k, .k] _, _, RetEv.three rfl (by first | exact REv.cell 0 ty92 rfl rfl rfl rfl (.aggL (.cons (.refl _) (.cons (.fact (.head _) (.refl _)) .nil))) | exact REv.cell 0 ty92 rfl rfl (take_at (BT.cs_length _ _) rfl) (BT.cs_length _ _) (.aggL (.cons (.refl _) (.cons (.fact (.head _) (.refl _)) .nil)))) (REv.tmp rfl (.refl _)) (REv.tmp rfl (.refl _)), rfl, sel_perm [.k, .k] _, ⟨congrArg Res.ret (by rw [ackAV_of (q := ⟨la, l⟩) (id := id) (q' := ⟨la, l.take k ++ l.drop (k + 1)⟩) (b := true) (f := 0) (by unfold BT.ack; rw [if_neg (by simp [hok]), if_neg (by (try simp only); omega), f1, f2])]; simp only [BT.av, BT.cs, ItT.css_append, ItT.css_take, ItT.css_drop, c3]; try rfl), rfl⟩⟩
      · skip
        have hnf := of_decide_eq_false c3
        obtain ⟨f1, f2⟩ := ack_none h1 h2 hpw hnf
        refine J.skip ?_
        refine thenQ.n ?_
        refine J.seq ?_
        refine J.closeArr 2 rfl (by first | (rw [ItT.css_length]; exact hit.1) | (rw [List.length_append, List.length_take, List.length_drop, ItT.css_length]; have := hit.1; show _ * 104 ≤ _; unfold reach at *; omega)) rfl (fun _ h => by cases h) ?_
        refine J.region_lit ?_
        refine JL.q rfl rfl rfl (by first | exact QW.load_box 1 ty92 (.tmp rfl) rfl rfl rfl | exact QW.load_box 1 ty92 (.tmp rfl) rfl (take_at (BT.cs_length _ _) rfl) (BT.cs_length _ _)) ?_
        refine JL.q rfl rfl rfl (QW.move (.tmp rfl)) ?_
        first | refine JL.store_boxF 0 ty92 (.tmp rfl) rfl (.tmp rfl) (by first | rfl | assumption) (rfl) (rfl) rfl ?_ | refine JL.store_boxF 0 ty92 (.tmp rfl) rfl (.tmp rfl) (by first | rfl | assumption) (rfl) (BT.cs_length _ _) rfl ?_ | refine JL.store_boxF 0 ty92 (.tmp rfl) rfl (.tmp rfl) (by first | rfl | assumption) (BT.cs_length _ _) (rfl) rfl ?_ | refine JL.store_boxF 0 ty92 (.tmp rfl) rfl (.tmp rfl) (by first | rfl | assumption) (BT.cs_length _ _) (BT.cs_length _ _) rfl ?_ | refine JL.store_box 0 ty92 (.tmp rfl) rfl (.tmp rfl) (by first | rfl | assumption) rfl rfl rfl rfl ?_ | refine JL.store_box 0 ty92 (.tmp rfl) rfl (.tmp rfl) (by first | rfl | assumption) (BT.cs_length _ _) rfl rfl rfl ?_
        refine JL.q rfl rfl rfl (QW.assign (.tmp rfl)) ?_
        refine JL.q rfl rfl rfl (QW.assign .const) ?_
        refine JL.nil ?_
        refine thenQ.n ?_
        refine J.ret ?_
        exact ⟨_, selP [.k, .k] _, _, RetEv.three rfl (by first | exact REv.cell 0 ty92 rfl rfl rfl rfl (.aggL (.cons (.refl _) (.cons (.fact (.head _) (.refl _)) .nil))) | exact REv.cell 0 ty92 rfl rfl (take_at (BT.cs_length _ _) rfl) (BT.cs_length _ _) (.aggL (.cons (.refl _) (.cons (.fact (.head _) (.refl _)) .nil)))) (REv.tmp rfl (.refl _)) (REv.tmp rfl (.refl _)), rfl, sel_perm [.k, .k] _, ⟨congrArg Res.ret (by rw [ackAV_of (q := ⟨la, l⟩) (id := id) (q' := ⟨la, l⟩) (b := false) (f := 0) (by unfold BT.ack; rw [if_neg (by simp [hok]), if_neg (by (try simp only); omega), f1, f2]), c3]; try rfl), rfl⟩⟩

end Go.Proofs.Ytkiankpmkglhcaa.J

/- Walks: the page's pushing and taking; a queue in memory of its own; two queues alike. -/
namespace Go.Proofs.Ytkiankpmkglhcaa.J
open Go Go.RowKit
set_option linter.unusedVariables false
set_option linter.unusedSimpArgs false
set_option maxRecDepth 10000
set_option maxHeartbeats 4000000

def fullAV (q : QT) : AV := .tup [.c (.bool q.full), .c (.int .i64 q.err)]
theorem fullAV_of {q : QT} {b : Bool} {f : Int} (h : q.full = b) (h2 : q.err = f) : fullAV q = .tup [.c (.bool b), .c (.int .i64 f)] := by simp [fullAV, h, h2]
theorem EvT.wfs.one {e : EvT} (h : e.wf) : EvT.wfs [e] := ⟨by simp only [List.length_singleton]; decide, fun x hx => by simp only [List.mem_singleton] at hx; subst hx; exact h⟩
def QownR : QT → AV → List Own → Prop
  | ⟨a, b, l⟩, x, o => ∃ v, x = .agg [.c (.int .i64 a), .c (.int .i64 b), .c v] ∧ v.oneCell' = true ∧ o = [.arr v eEv (EvT.css true l)]

theorem qfull_ok {fr : Bool} {q : QT} {ys : List AV} (hq : Qc fr q ys) (hw : q.wf) : Fn Try.prog 48 [.agg ys] (fullAV q) := by
  obtain ⟨lim, la, l⟩ := q
  subst hq
  obtain ⟨hl1, hl2, hev⟩ := hw
  have hw : (QT.mk lim la l).wf := ⟨hl1, hl2, hev⟩
  simp only at hl1 hl2 hev
  have hlen := hev.len
  refine AC.of_J Try.func48 rfl Try.ntmps48 rfl fun w0 A0 => ?_
  refine J.seq ?_
  refine J.region_lit ?_
  refine JL.box_agg (.tmp rfl) rfl fun b1 => ?_
  refine JL.q rfl rfl rfl (QW.assign .const) ?_
  refine JL.q rfl rfl rfl (QW.assign .const) ?_
  refine JL.nil ?_
  refine thenQ.n ?_
  refine J.seq ?_
  refine J.seq ?_
  refine J.region_lit ?_
  refine JL.q rfl rfl rfl (QW.load_box 0 ty58 (.tmp rfl) rfl rfl rfl) ?_
  refine JL.q rfl rfl rfl (QW.call gofn50 (.cons (.tmp rfl) .nil) (qcheck_ok Qc.mk hw)) ?_
  refine JL.q rfl rfl rfl (QW.assign (.tmp rfl)) ?_
  refine JL.nil ?_
  refine thenQ.n ?_
  refine J.seq ?_
  refine J.region_lit ?_
  refine JL.q rfl rfl rfl (QW.move (.tmp rfl)) ?_
  refine JL.q rfl rfl rfl (QW.neq (.tmp rfl) .const) ?_
  refine JL.nil ?_
  refine thenQ.n ?_
  refine J.cond (.tmp rfl) (fun c1 => ?_) (fun c1 => ?_)
  · skip
    simp at c1
    obtain ⟨hno, he9⟩ := QT.err_no c1
    refine J.seq ?_
    refine J.region_lit ?_
    refine JL.q rfl rfl rfl (QW.move (.tmp rfl)) ?_
    refine JL.q rfl rfl rfl (QW.assign .const) ?_
    refine JL.q rfl rfl rfl (QW.assign (.tmp rfl)) ?_
    refine JL.nil ?_
    refine thenQ.n ?_
    refine J.ret ?_
    refine thenQ.r ?_
    exact ⟨_, selP [.k] _, _, RetEv.two rfl (REv.tmp rfl (.refl _)) (REv.tmp rfl (.refl _)), rfl, sel_perm [.k] _, ⟨congrArg Res.ret (fullAV_of (q := ⟨lim, la, l⟩) (b := false) (f := (QT.mk lim la l).err) (by simp [QT.full, hno]) rfl).symm, rfl⟩⟩
  · skip
    simp at c1
    have hok := QT.err_ok.1 c1
    obtain ⟨o1, o2, o3, o4, o5, -⟩ := QT.ok_inv hok
    simp only at o1 o2 o3 o4 o5
    refine J.skip ?_
    refine thenQ.n ?_
    refine J.seq ?_
    refine J.region_lit ?_
    refine JL.q rfl rfl rfl (QW.field_ptr fo58_2 (.tmp rfl) rfl) ?_
    refine JL.q rfl rfl rfl (QW.load_box1 0 ty56 (.tmp rfl) rfl rfl) ?_
    refine JL.q rfl rfl rfl (by first | exact QW.len_slE sl56 (.tmp rfl) (EvT.css_length _ _) | exact QW.len_sl sl56 (.tmp rfl) | exact QW.len_nil sl56 (.tmp rfl)) ?_
    refine JL.q rfl rfl rfl (QW.field_ptr fo58_0 (.tmp rfl) rfl) ?_
    refine JL.q rfl rfl rfl (QW.load_box1 0 ty3 (.tmp rfl) rfl rfl) ?_
    refine JL.q rfl rfl rfl (QW.eql (.tmp rfl) (.tmp rfl)) ?_
    refine JL.q rfl rfl rfl (QW.assign (.tmp rfl)) ?_
    refine JL.q rfl rfl rfl (QW.assign .const) ?_
    refine JL.nil ?_
    refine thenQ.n ?_
    refine J.ret ?_
    exact ⟨_, selP [.k] _, _, RetEv.two rfl (REv.tmp rfl (.refl _)) (REv.tmp rfl (.refl _)), rfl, sel_perm [.k] _, ⟨congrArg Res.ret (by rw [fullAV_of (q := ⟨lim, la, l⟩) (b := decide ((l.length : Int) = lim)) (f := 0) (by simp only [QT.full, hok, Bool.true_and]; exact Bool.eq_iff_iff.2 (by simp)) (QT.err_ok.2 hok)]; rfl), rfl⟩⟩

theorem rqfull_ok {fr : Bool} {q : QT} {ys : List AV} (hq : Qc fr q ys) (hw : q.wf) : Fn Try.prog 49 [.agg ys] (fullAV q) := by
  obtain ⟨lim, la, l⟩ := q
  subst hq
  obtain ⟨hl1, hl2, hev⟩ := hw
  have hw : (QT.mk lim la l).wf := ⟨hl1, hl2, hev⟩
  simp only at hl1 hl2 hev
  have hlen := hev.len
  refine AC.of_J Try.func49 rfl Try.ntmps49 rfl fun w0 A0 => ?_
  refine J.seq ?_
  refine J.region_lit ?_
  refine JL.box_agg (.tmp rfl) rfl fun b1 => ?_
  refine JL.q rfl rfl rfl (QW.assign .const) ?_
  refine JL.q rfl rfl rfl (QW.assign .const) ?_
  refine JL.nil ?_
  refine thenQ.n ?_
  refine J.seq ?_
  refine J.seq ?_
  refine J.region_lit ?_
  refine JL.q rfl rfl rfl (QW.load_box 0 ty61 (.tmp rfl) rfl rfl rfl) ?_
  refine JL.q rfl rfl rfl (QW.call gofn51 (.cons (.tmp rfl) .nil) (rqcheck_ok Qc.mk hw)) ?_
  refine JL.q rfl rfl rfl (QW.neq (.tmp rfl) .const) ?_
  refine JL.nil ?_
  refine thenQ.n ?_
  refine J.cond (.tmp rfl) (fun c1 => ?_) (fun c1 => ?_)
  · skip
    simp at c1
    obtain ⟨hno, he9⟩ := QT.err_no c1
    refine J.seq ?_
    refine J.region_lit ?_
    refine JL.q rfl rfl rfl (QW.assign .const) ?_
    refine JL.q rfl rfl rfl (QW.assign .const) ?_
    refine JL.nil ?_
    refine thenQ.n ?_
    refine J.ret ?_
    refine thenQ.r ?_
    exact ⟨_, selP [.k] _, _, RetEv.two rfl (REv.tmp rfl (.refl _)) (REv.tmp rfl (.refl _)), rfl, sel_perm [.k] _, ⟨congrArg Res.ret (fullAV_of (q := ⟨lim, la, l⟩) (b := false) (f := 9) (by simp [QT.full, hno]) he9).symm, rfl⟩⟩
  · skip
    simp at c1
    have hok := QT.err_ok.1 c1
    obtain ⟨o1, o2, o3, o4, o5, -⟩ := QT.ok_inv hok
    simp only at o1 o2 o3 o4 o5
    refine J.skip ?_
    refine thenQ.n ?_
    refine J.seq ?_
    refine J.region_lit ?_
    refine JL.q rfl rfl rfl (QW.field_ptr fo61_2 (.tmp rfl) rfl) ?_
    refine JL.q rfl rfl rfl (QW.load_box1 0 ty56 (.tmp rfl) rfl rfl) ?_
    refine JL.q rfl rfl rfl (by first | exact QW.len_slE sl56 (.tmp rfl) (EvT.css_length _ _) | exact QW.len_sl sl56 (.tmp rfl) | exact QW.len_nil sl56 (.tmp rfl)) ?_
    refine JL.q rfl rfl rfl (QW.field_ptr fo61_0 (.tmp rfl) rfl) ?_
    refine JL.q rfl rfl rfl (QW.load_box1 0 ty3 (.tmp rfl) rfl rfl) ?_
    refine JL.q rfl rfl rfl (QW.eql (.tmp rfl) (.tmp rfl)) ?_
    refine JL.q rfl rfl rfl (QW.assign (.tmp rfl)) ?_
    refine JL.q rfl rfl rfl (QW.assign .const) ?_
    refine JL.nil ?_
    refine thenQ.n ?_
    refine J.ret ?_
    exact ⟨_, selP [.k] _, _, RetEv.two rfl (REv.tmp rfl (.refl _)) (REv.tmp rfl (.refl _)), rfl, sel_perm [.k] _, ⟨congrArg Res.ret (by rw [fullAV_of (q := ⟨lim, la, l⟩) (b := decide ((l.length : Int) = lim)) (f := 0) (by simp only [QT.full, hok, Bool.true_and]; exact Bool.eq_iff_iff.2 (by simp)) (QT.err_ok.2 hok)]; rfl), rfl⟩⟩

theorem rqown_ok {fr : Bool} {q : QT} {ys : List AV} (hq : Qc fr q ys) (hw : q.wf) : AC Try.prog 90 [] [.agg ys] (RetR (QownR q)) := by
  obtain ⟨lim, la, l⟩ := q
  subst hq
  obtain ⟨hl1, hl2, hev⟩ := hw
  have hw : (QT.mk lim la l).wf := ⟨hl1, hl2, hev⟩
  simp only at hl1 hl2 hev
  have hlen := hev.len
  refine AC.of_J Try.func90 rfl Try.ntmps90 rfl fun w0 A0 => ?_
  refine J.seq ?_
  refine J.region_lit ?_
  refine JL.box_agg (.tmp rfl) rfl fun b1 => ?_
  refine JL.alloc z61 rfl rfl fun b2 => ?_
  refine JL.nil ?_
  refine thenQ.n ?_
  refine J.seq ?_
  refine J.region_lit ?_
  refine JL.q rfl rfl rfl (QW.field_ptr fo61_2 (.tmp rfl) rfl) ?_
  refine JL.q rfl rfl rfl (QW.load_box1 1 ty56 (.tmp rfl) rfl rfl) ?_
  refine JL.callRF [] gofn91 rfl Lent.nil (fun _ => (.cons (.tmp rfl) .nil)) (revents_own hev) (.inl rfl) fun x5 o5 h5 => ?_
  obtain ⟨v5, rfl, hs5, rfl⟩ := h5
  refine JL.q rfl rfl rfl (QW.field_ptr fo61_2 (.tmp rfl) rfl) ?_
  refine JL.store_box 1 ty56 (.tmp rfl) rfl (.tmp rfl) (by first | rfl | assumption) rfl rfl rfl rfl ?_
  refine JL.nil ?_
  refine thenQ.n ?_
  refine J.seq ?_
  refine J.region_lit ?_
  refine JL.q rfl rfl rfl (QW.load_box 1 ty61 (.tmp rfl) rfl rfl rfl) ?_
  first | refine JL.store_boxF 0 ty61 (.tmp rfl) rfl (.tmp rfl) (by first | rfl | assumption) (rfl) (rfl) rfl ?_ | refine JL.store_box 0 ty61 (.tmp rfl) rfl (.tmp rfl) (by first | rfl | assumption) rfl rfl rfl rfl ?_
  refine JL.nil ?_
  refine thenQ.n ?_
  refine J.ret ?_
  exact ⟨_, selP [.k, .k, .p] _, _, RetEv.one rfl (REv.cell 0 ty61 rfl rfl rfl rfl (.refl _)), rfl, sel_perm [.k, .k, .p] _, ⟨_, rfl, _, rfl, hs5, rfl⟩⟩

theorem rqpush_ok {fr fr2 : Bool} {q : QT} {e : EvT} {ys zs : List AV} (hq : Qc fr q ys) (he : Ec fr2 e zs) (hw : q.wf) (hwe : e.wf) : Fn Try.prog 46 [.agg ys, .agg zs] (pushAV q e) := by
  obtain ⟨lim, la, l⟩ := q
  subst hq
  obtain ⟨hl1, hl2, hev⟩ := hw
  have hw : (QT.mk lim la l).wf := ⟨hl1, hl2, hev⟩
  simp only at hl1 hl2 hev
  have hlen := hev.len
  obtain ⟨nm, v⟩ := e
  obtain ⟨hen, hev2⟩ := hwe
  have hwe : (EvT.mk nm v).wf := ⟨hen, hev2⟩
  simp only at hen hev2
  subst he
  refine AC.of_J Try.func46 rfl Try.ntmps46 rfl fun w0 A0 => ?_
  refine J.seq ?_
  refine J.region_lit ?_
  refine JL.box_agg (.tmp rfl) rfl fun b2 => ?_
  refine JL.box_agg (.tmp rfl) rfl fun b3 => ?_
  refine JL.alloc z61 rfl rfl fun b4 => ?_
  refine JL.q rfl rfl rfl (QW.assign .const) ?_
  refine JL.q rfl rfl rfl (QW.assign .const) ?_
  refine JL.nil ?_
  refine thenQ.n ?_
  refine J.seq ?_
  refine J.block ?_
  refine J.seq ?_
  refine J.region_lit ?_
  refine JL.q rfl rfl rfl (QW.load_box 2 ty61 (.tmp rfl) rfl rfl rfl) ?_
  refine JL.q rfl rfl rfl (QW.call gofn51 (.cons (.tmp rfl) .nil) (rqcheck_ok Qc.mk hw)) ?_
  refine JL.q rfl rfl rfl (QW.neq (.tmp rfl) .const) ?_
  refine JL.q rfl rfl rfl (QW.assign (.tmp rfl)) ?_
  refine JL.nil ?_
  refine thenQ.n ?_
  refine J.cond (.tmp rfl) (fun c1 => ?_) (fun c1 => ?_)
  · skip
    simp at c1
    obtain ⟨hno, he9⟩ := QT.err_no c1
    refine J.seq ?_
    refine J.region_lit ?_
    refine JL.q rfl rfl rfl (QW.build (idx := []) pl61 z61 rfl .nil rfl rfl rfl rfl) ?_
    first | refine JL.store_boxF 0 ty61 (.tmp rfl) rfl (.tmp rfl) (by first | rfl | assumption) (rfl) (rfl) rfl ?_ | refine JL.store_box 0 ty61 (.tmp rfl) rfl (.tmp rfl) (by first | rfl | assumption) rfl rfl rfl rfl ?_
    refine JL.q rfl rfl rfl (QW.assign .const) ?_
    refine JL.q rfl rfl rfl (QW.assign .const) ?_
    refine JL.nil ?_
    refine thenQ.n ?_
    refine J.ret ?_
    refine blkQ.r ?_
    refine thenQ.r ?_
    exact ⟨_, selP [.k, .k, .k] _, _, RetEv.three rfl (REv.cell 0 ty61 rfl rfl rfl rfl (.aggL (.cons (.refl _) (.cons (.refl _) (.cons (.nil true false eEv) .nil))))) (REv.tmp rfl (.refl _)) (REv.tmp rfl (.refl _)), rfl, sel_perm [.k, .k, .k] _, ⟨congrArg Res.ret (pushAV_of (q := ⟨lim, la, l⟩) (e := ⟨nm, v⟩) (q' := .nil) (n := 0) (f := 9) (by simp [QT.push, hno])).symm, rfl⟩⟩
  · skip
    simp at c1
    have hok := QT.err_ok.1 c1
    obtain ⟨o1, o2, o3, o4, o5, -⟩ := QT.ok_inv hok
    simp only at o1 o2 o3 o4 o5
    refine J.seq ?_
    refine J.region_lit ?_
    refine JL.q rfl rfl rfl (QW.field_ptr fo70_0 (.tmp rfl) rfl) ?_
    refine JL.q rfl rfl rfl (QW.load_box1 1 ty9 (.tmp rfl) rfl rfl) ?_
    refine JL.q rfl rfl rfl (QW.call gofn89 (.cons (.tmp rfl) .nil) (rname_ok _)) ?_
    refine JL.q rfl rfl rfl (QW.not (.tmp rfl)) ?_
    refine JL.q rfl rfl rfl (QW.assign (.tmp rfl)) ?_
    refine JL.nil ?_
    refine thenQ.n ?_
    refine J.cond (.tmp rfl) (fun c2 => ?_) (fun c2 => ?_)
    · skip
      simp at c2
      refine J.seq ?_
      refine J.region_lit ?_
      refine JL.q rfl rfl rfl (QW.build (idx := []) pl61 z61 rfl .nil rfl rfl rfl rfl) ?_
      first | refine JL.store_boxF 0 ty61 (.tmp rfl) rfl (.tmp rfl) (by first | rfl | assumption) (rfl) (rfl) rfl ?_ | refine JL.store_box 0 ty61 (.tmp rfl) rfl (.tmp rfl) (by first | rfl | assumption) rfl rfl rfl rfl ?_
      refine JL.q rfl rfl rfl (QW.assign .const) ?_
      refine JL.q rfl rfl rfl (QW.assign .const) ?_
      refine JL.nil ?_
      refine thenQ.n ?_
      refine J.ret ?_
      refine blkQ.r ?_
      refine thenQ.r ?_
      exact ⟨_, selP [.k, .k, .k] _, _, RetEv.three rfl (REv.cell 0 ty61 rfl rfl rfl rfl (.aggL (.cons (.refl _) (.cons (.refl _) (.cons (.nil true false eEv) .nil))))) (REv.tmp rfl (.refl _)) (REv.tmp rfl (.refl _)), rfl, sel_perm [.k, .k, .k] _, ⟨congrArg Res.ret (pushAV_of (q := ⟨lim, la, l⟩) (e := ⟨nm, v⟩) (q' := .nil) (n := 0) (f := 31) (by simp [QT.push, hok, evErr, c2])).symm, rfl⟩⟩
    · skip
      simp at c2
      refine J.skip ?_
      refine blkQ.n ?_
      refine thenQ.n ?_
      refine J.seq ?_
      refine J.region_lit ?_
      refine JL.q rfl rfl rfl (QW.field_ptr fo70_1 (.tmp rfl) rfl) ?_
      refine JL.q rfl rfl rfl (by first | exact QW.load_box 1 ty26 (.tmp rfl) rfl rfl rfl | exact QW.load_box 1 ty26 (.tmp rfl) rfl (take_at (V.cs_length _ _) rfl) (V.cs_length _ _)) ?_
      refine JL.q rfl rfl rfl (QW.call gofn25 (.cons (.tmp rfl) .nil) (rcheck_ok Vc.self hev2)) ?_
      refine JL.q rfl rfl rfl (QW.assign (.tmp rfl)) ?_
      refine JL.nil ?_
      refine thenQ.n ?_
      refine J.seq ?_
      refine J.block ?_
      refine J.seq ?_
      refine J.region_lit ?_
      refine JL.q rfl rfl rfl (QW.move (.tmp rfl)) ?_
      refine JL.q rfl rfl rfl (QW.neq (.tmp rfl) .const) ?_
      refine JL.q rfl rfl rfl (QW.assign (.tmp rfl)) ?_
      refine JL.nil ?_
      refine thenQ.n ?_
      refine J.cond (.tmp rfl) (fun c3 => ?_) (fun c3 => ?_)
      · skip
        simp at c3
        refine J.seq ?_
        refine J.region_lit ?_
        refine JL.q rfl rfl rfl (QW.build (idx := []) pl61 z61 rfl .nil rfl rfl rfl rfl) ?_
        refine JL.q rfl rfl rfl (QW.move (.tmp rfl)) ?_
        first | refine JL.store_boxF 0 ty61 (.tmp rfl) rfl (.tmp rfl) (by first | rfl | assumption) (rfl) (rfl) rfl ?_ | refine JL.store_box 0 ty61 (.tmp rfl) rfl (.tmp rfl) (by first | rfl | assumption) rfl rfl rfl rfl ?_
        refine JL.q rfl rfl rfl (QW.assign .const) ?_
        refine JL.q rfl rfl rfl (QW.assign (.tmp rfl)) ?_
        refine JL.nil ?_
        refine thenQ.n ?_
        refine J.ret ?_
        refine blkQ.r ?_
        refine thenQ.r ?_
        exact ⟨_, selP [.k, .k, .k] _, _, RetEv.three rfl (REv.cell 0 ty61 rfl rfl rfl rfl (.aggL (.cons (.refl _) (.cons (.refl _) (.cons (.nil true false eEv) .nil))))) (REv.tmp rfl (.refl _)) (REv.tmp rfl (.refl _)), rfl, sel_perm [.k, .k, .k] _, ⟨congrArg Res.ret (pushAV_of (q := ⟨lim, la, l⟩) (e := ⟨nm, v⟩) (q' := .nil) (n := 0) (f := v.err) (by simp [QT.push, hok, evErr, c2, c3])).symm, rfl⟩⟩
      · skip
        simp at c3
        refine J.seq ?_
        refine J.region_lit ?_
        refine JL.q rfl rfl rfl (QW.field_ptr fo61_2 (.tmp rfl) rfl) ?_
        refine JL.q rfl rfl rfl (QW.load_box1 2 ty56 (.tmp rfl) rfl rfl) ?_
        refine JL.q rfl rfl rfl (by first | exact QW.len_slE sl56 (.tmp rfl) (EvT.css_length _ _) | exact QW.len_sl sl56 (.tmp rfl) | exact QW.len_nil sl56 (.tmp rfl)) ?_
        refine JL.q rfl rfl rfl (QW.field_ptr fo61_0 (.tmp rfl) rfl) ?_
        refine JL.q rfl rfl rfl (QW.load_box1 2 ty3 (.tmp rfl) rfl rfl) ?_
        refine JL.q rfl rfl rfl (QW.geq (.tmp rfl) (.tmp rfl)) ?_
        refine JL.q rfl rfl rfl (QW.move (.tmp rfl)) ?_
        refine JL.g rfl rfl rfl rfl rfl (fun hg => (QW.field_ptr fo61_1 (.tmp rfl) rfl)) ?_
        refine JL.g rfl rfl rfl rfl rfl (fun hg => (QW.load_box1 2 ty3 (.when rfl hg) rfl rfl)) ?_
        refine JL.g rfl rfl rfl rfl rfl (fun hg => (QW.geq (.when rfl hg) .const)) ?_
        refine JL.q rfl rfl rfl (QW.pick_or (.tmp rfl) (.tmp rfl)) ?_
        refine JL.q rfl rfl rfl (QW.assign (.tmp rfl)) ?_
        refine JL.nil ?_
        refine thenQ.n ?_
        refine J.cond (.tmp rfl) (fun c4 => ?_) (fun c4 => ?_)
        · skip
          simp [EvT.css_length] at c4
          refine J.seq ?_
          refine J.region_lit ?_
          refine JL.q rfl rfl rfl (QW.build (idx := []) pl61 z61 rfl .nil rfl rfl rfl rfl) ?_
          first | refine JL.store_boxF 0 ty61 (.tmp rfl) rfl (.tmp rfl) (by first | rfl | assumption) (rfl) (rfl) rfl ?_ | refine JL.store_box 0 ty61 (.tmp rfl) rfl (.tmp rfl) (by first | rfl | assumption) rfl rfl rfl rfl ?_
          refine JL.q rfl rfl rfl (QW.assign .const) ?_
          refine JL.q rfl rfl rfl (QW.assign .const) ?_
          refine JL.nil ?_
          refine thenQ.n ?_
          refine J.ret ?_
          refine blkQ.r ?_
          refine thenQ.r ?_
          exact ⟨_, selP [.k, .k, .k] _, _, RetEv.three rfl (REv.cell 0 ty61 rfl rfl rfl rfl (.aggL (.cons (.refl _) (.cons (.refl _) (.cons (.nil true false eEv) .nil))))) (REv.tmp rfl (.refl _)) (REv.tmp rfl (.refl _)), rfl, sel_perm [.k, .k, .k] _, ⟨congrArg Res.ret (pushAV_of (q := ⟨lim, la, l⟩) (e := ⟨nm, v⟩) (q' := .nil) (n := 0) (f := 51) (by simp [QT.push, hok, evErr, c2, c3]; omega)).symm, rfl⟩⟩
        · skip
          simp [EvT.css_length] at c4
          refine J.skip ?_
          refine blkQ.n ?_
          refine thenQ.n ?_
          refine J.seq ?_
          refine J.region_lit ?_
          refine JL.q rfl rfl rfl (QW.load_box 2 ty61 (.tmp rfl) rfl rfl rfl) ?_
          refine JL.callRF [] gofn90 rfl Lent.nil (fun _ => (.cons (.tmp rfl) .nil)) (rqown_ok Qc.mk hw) (.inl rfl) fun x42 o42 h42 => ?_
          obtain ⟨v42, rfl, hs42, rfl⟩ := h42
          refine JL.alloc z61 rfl rfl fun b8 => ?_
          first | refine JL.store_boxF 0 ty61 (.tmp rfl) rfl (.tmp rfl) (by first | rfl | assumption) (rfl) (rfl) rfl ?_ | refine JL.store_box 0 ty61 (.tmp rfl) rfl (.tmp rfl) (by first | rfl | assumption) rfl rfl rfl rfl ?_
          refine JL.nil ?_
          refine thenQ.n ?_
          refine J.seq ?_
          refine J.region_tailK 5 mixed (by kernel_rfl) (by kernel_rfl) (by kernel_rfl) rfl ?_
          refine .cons [] rfl rfl rfl (.q rfl (QW.field_ptr fo61_2 (.tmp rfl) rfl)) ?_
          refine .cons [43] rfl rfl rfl (.q rfl (QW.load_box1 0 ty56 (.tmp rfl) rfl rfl)) ?_
          refine .cons [] rfl rfl rfl (.q rfl (by first | exact QW.load_box 2 ty70 (.tmp rfl) rfl rfl rfl | exact QW.load_box 2 ty70 (.tmp rfl) rfl (take_at (EvT.cs_length _ _) rfl) (EvT.cs_length _ _))) ?_
          refine .cons [45] rfl rfl rfl (.q rfl (QW.buildSlice (idx := [0]) (xs := [EvT.cs fr2 ⟨nm, v⟩]) sl56 el70 z70 rfl (.cons (.tmp rfl) .nil) rfl rfl rfl rfl rfl (by exact fill_one (EvT.cs_length _ _)) rfl (all_one (EvT.cs_length _ _)) rfl)) ?_
          refine .cons [46] rfl rfl rfl (.q rfl (QW.call gofn91 (.cons (Ev.le (.tmp rfl) (.slL (fun _ => rfl) (by rfl) (EvT.css_sz false [⟨nm, v⟩]) (EvT.css_le fr2 false (fun h => by cases h) [⟨nm, v⟩]))) .nil) (revents_ok (fr := false) (c := false) (l := [⟨nm, v⟩]) (EvT.wfs.one hwe)))) ?_
          refine .nil ?_
          refine JL.append 4 sl56 el70 rfl (.tmp rfl) rfl (srcA_sl sl56 (.tmp rfl)) (by rw [EvT.css_length, EvT.css_length]; simp; unfold reach; omega) rfl fun v48 => ?_
          refine JL.q rfl rfl rfl (QW.field_ptr fo61_2 (.tmp rfl) rfl) ?_
          refine JL.isSlice 4 rfl fun hs2 => ?_
          refine JL.store_box 0 ty56 (.tmp rfl) rfl (.tmp rfl) (by first | rfl | assumption) rfl rfl rfl rfl ?_
          refine JL.nil ?_
          refine thenQ.n ?_
          refine J.seq ?_
          refine J.region_lit ?_
          refine JL.q rfl rfl rfl (QW.field_ptr fo61_1 (.tmp rfl) rfl) ?_
          refine JL.q rfl rfl rfl (QW.load_box1 0 ty3 (.tmp rfl) rfl rfl) ?_
          refine JL.q rfl rfl rfl (QW.add (.tmp rfl) .const (by first | exact w64n (by first | rfl | omega | (simp; done)) (by omega) | exact w64 (by omega) | rfl)) ?_
          refine JL.q rfl rfl rfl (QW.field_ptr fo61_1 (.tmp rfl) rfl) ?_
          refine JL.store_box 0 ty3 (.tmp rfl) rfl (.tmp rfl) (by first | rfl | assumption) rfl rfl rfl rfl ?_
          refine JL.nil ?_
          refine thenQ.n ?_
          refine J.seq ?_
          refine J.closeArr 4 rfl (by rw [List.length_append, EvT.css_length]; simp [EvT.css]; unfold reach; omega) rfl (fun _ h => by cases h) ?_
          refine J.region_outK 4 1 (fun os_ ow_ x_ o_ => match os_ with | [] => (x_ = .c undef ∧ o_ = ow_.set 1 (.box b4 [.c (.int .i64 lim), .c (.int .i64 (la + 1)), .c v48])) | _ => False) mixed (by kernel_rfl) (by kernel_rfl) (by kernel_rfl) rfl ?_
          refine OutK.quiet [] rfl rfl rfl (fun qs_ qv_ ql_ => by
              rcases qs_ with _ | ⟨⟨y0, p0⟩, qs_⟩
              · skip
                exact (.q rfl (QW.load_box 0 ty61 (.tmp rfl) rfl rfl rfl))
              rcases qs_ with _ | ⟨⟨y1, p1⟩, qs_⟩
              · skip
                obtain ⟨hr0, _⟩ := qv_
                obtain ⟨rfl, rfl⟩ := hr0
                exact (.q rfl (QW.load_box 0 ty61 (.tmp rfl) rfl rfl rfl))
              exact absurd ql_ (by simp)) ?_
          refine OutK.quiet [] rfl rfl rfl (fun qs_ qv_ ql_ => (.q rfl (QW.field_ptr fo61_1 (.tmp rfl) rfl))) ?_
          refine OutK.quiet [55] rfl rfl rfl (fun qs_ qv_ ql_ => by
              rcases qs_ with _ | ⟨⟨y0, p0⟩, qs_⟩
              · skip
                exact (.q rfl (QW.load_box1 0 ty3 (.tmp rfl) rfl rfl))
              rcases qs_ with _ | ⟨⟨y1, p1⟩, qs_⟩
              · skip
                obtain ⟨hr0, _⟩ := qv_
                obtain ⟨rfl, rfl⟩ := hr0
                exact (.q rfl (QW.load_box1 0 ty3 (.tmp rfl) rfl rfl))
              exact absurd ql_ (by simp)) ?_
          refine OutK.store [54] rfl (fun qs_ ow x o h ql_ => by
              obtain rfl : qs_ = [] := List.length_eq_zero_iff.1 (by simpa using ql_)
              exact h.1) rfl rfl rfl (fun qs_ qv_ ql_ => by
              obtain rfl : qs_ = [] := List.length_eq_zero_iff.1 ql_
              exact LStep.toR rfl (by first | exact LStep.store_boxF 1 ty61 (.tmp rfl) rfl (.tmp rfl) (by first | rfl | assumption) (rfl) (rfl) rfl | exact LStep.store_box 1 ty61 (.tmp rfl) rfl (.tmp rfl) (by first | rfl | assumption) rfl rfl rfl rfl) ⟨rfl, rfl⟩) ?_
          refine .nil fun qs_ qv_ ql_ => ?_
          obtain ⟨⟨y0, p0⟩, qs_, rfl⟩ : ∃ p t, qs_ = p :: t := by (cases qs_ with | nil => simp at ql_ | cons p t => exact ⟨p, t, rfl⟩)
          obtain rfl : qs_ = [] := List.length_eq_zero_iff.1 (by simpa using ql_)
          obtain ⟨hr0, _⟩ := qv_
          obtain ⟨rfl, rfl⟩ := hr0
          refine JL.conv (by (try simp only [stepsO, List.map_cons, List.map_nil, valO, nthO, curO, mrg, List.reverse_cons, List.reverse_nil, List.nil_append, List.cons_append, List.append_nil, List.getElem?_cons_zero, List.getElem?_cons_succ, Option.map_some, Option.getD_some, List.set_cons_zero, List.set_cons_succ, AV.cellsOf, splice_zero, splice_succ, Nat.zero_add, Nat.reduceAdd]); rfl) ?_
          refine JL.q rfl rfl rfl (QW.assign (.tmp rfl)) ?_
          refine JL.q rfl rfl rfl (QW.assign .const) ?_
          refine JL.nil ?_
          refine thenQ.n ?_
          refine J.ret ?_
          exact ⟨_, selP [.k, .k, .k, .k] _, _, RetEv.three rfl (REv.cell 1 ty61 rfl rfl rfl rfl (.aggL (.cons (.refl _) (.cons (.refl _) (.cons (.fact (x := .sl true false eEv (EvT.css true l ++ EvT.css true [⟨nm, v⟩])) (.head _) (.refl _)) .nil))))) (REv.tmp rfl (.refl _)) (REv.tmp rfl (.refl _)), rfl, sel_perm [.k, .k, .k, .k] _, ⟨congrArg Res.ret (by rw [pushAV_of (q := ⟨lim, la, l⟩) (e := ⟨nm, v⟩) (q' := ⟨lim, la + 1, l ++ [⟨nm, v⟩]⟩) (n := la + 1) (f := 0) (by simp [QT.push, hok, evErr, c2, c3]; omega), ← EvT.css_append]; rfl), rfl⟩⟩

theorem rqown_rd {fr : Bool} {q : QT} {ys : List AV} (hq : Qc fr q ys) (hw : q.wf) : Fn Try.prog 90 [.agg ys] q.av :=
  Fn.close (rqown_ok hq hw) fun x o h => by
    obtain ⟨lim, la, l⟩ := q
    obtain ⟨v, rfl, _, rfl⟩ := h
    exact ⟨[(v, evsAV l)], fun w A hok hb p hp => Clos.arr (by rw [EvT.css_length]; exact hw.ev.1) w A (hok _ (by simp)) (fun b hb' => hb b (by simpa [fps_cons, fps_nil] using hb')) p hp, .aggL (.cons (.refl _) (.cons (.refl _) (.cons (.fact (x := evsAV l) (by simp) (.refl _)) .nil)))⟩

theorem rqtake_ok {fr : Bool} {q : QT} {ys : List AV} (hq : Qc fr q ys) (n : Int) (hw : q.wf) : Fn Try.prog 47 [.agg ys, .c (.int .i64 n)] (takeAV q n) := by
  obtain ⟨lim, la, l⟩ := q
  subst hq
  obtain ⟨hl1, hl2, hev⟩ := hw
  have hw : (QT.mk lim la l).wf := ⟨hl1, hl2, hev⟩
  simp only at hl1 hl2 hev
  have hlen := hev.len
  refine AC.of_J Try.func47 rfl Try.ntmps47 rfl fun w0 A0 => ?_
  refine J.seq ?_
  refine J.region_lit ?_
  refine JL.box_agg (.tmp rfl) rfl fun b2 => ?_
  refine JL.alloc z61 rfl rfl fun b4 => ?_
  refine JL.q rfl rfl rfl (QW.assign .const) ?_
  refine JL.q rfl rfl rfl (QW.assign .const) ?_
  refine JL.q rfl rfl rfl (QW.assign .const) ?_
  refine JL.nil ?_
  refine thenQ.n ?_
  refine J.seq ?_
  refine J.block ?_
  refine J.seq ?_
  refine J.region_lit ?_
  refine JL.q rfl rfl rfl (QW.load_box 1 ty61 (.tmp rfl) rfl rfl rfl) ?_
  refine JL.q rfl rfl rfl (QW.call gofn51 (.cons (.tmp rfl) .nil) (rqcheck_ok Qc.mk hw)) ?_
  refine JL.q rfl rfl rfl (QW.neq (.tmp rfl) .const) ?_
  refine JL.q rfl rfl rfl (QW.assign (.tmp rfl)) ?_
  refine JL.nil ?_
  refine thenQ.n ?_
  refine J.cond (.tmp rfl) (fun c1 => ?_) (fun c1 => ?_)
  · skip
    simp at c1
    obtain ⟨hno, he9⟩ := QT.err_no c1
    refine J.seq ?_
    refine J.region_lit ?_
    refine JL.q rfl rfl rfl (QW.build (idx := []) pl61 z61 rfl .nil rfl rfl rfl rfl) ?_
    first | refine JL.store_boxF 0 ty61 (.tmp rfl) rfl (.tmp rfl) (by first | rfl | assumption) (rfl) (rfl) rfl ?_ | refine JL.store_box 0 ty61 (.tmp rfl) rfl (.tmp rfl) (by first | rfl | assumption) rfl rfl rfl rfl ?_
    refine JL.q rfl rfl rfl (QW.assign .const) ?_
    refine JL.q rfl rfl rfl (QW.assign .const) ?_
    refine JL.q rfl rfl rfl (QW.assign .const) ?_
    refine JL.nil ?_
    refine thenQ.n ?_
    refine J.ret ?_
    refine blkQ.r ?_
    refine thenQ.r ?_
    exact ⟨_, selP [.k, .k] _, _, RetEv.four rfl (REv.cell 0 ty61 rfl rfl rfl rfl (.aggL (.cons (.refl _) (.cons (.refl _) (.cons (.nil true false eEv) .nil))))) (REv.tmp rfl (.nil true false eEv)) (REv.tmp rfl (.refl _)) (REv.tmp rfl (.refl _)), rfl, sel_perm [.k, .k] _, ⟨congrArg Res.ret (takeAV_of (q := ⟨lim, la, l⟩) (n := n) (q' := .nil) (l := []) (m := 0) (f := 9) (by simp [QT.take, hno])).symm, rfl⟩⟩
  · skip
    simp at c1
    have hok := QT.err_ok.1 c1
    obtain ⟨o1, o2, o3, o4, o5, -⟩ := QT.ok_inv hok
    simp only at o1 o2 o3 o4 o5
    refine J.seq ?_
    refine J.region_lit ?_
    refine JL.q rfl rfl rfl (QW.move (.tmp rfl)) ?_
    refine JL.q rfl rfl rfl (QW.lss (.tmp rfl) .const) ?_
    refine JL.q rfl rfl rfl (QW.assign (.tmp rfl)) ?_
    refine JL.nil ?_
    refine thenQ.n ?_
    refine J.cond (.tmp rfl) (fun c2 => ?_) (fun c2 => ?_)
    · skip
      simp at c2
      refine J.seq ?_
      refine J.region_lit ?_
      refine JL.q rfl rfl rfl (QW.build (idx := []) pl61 z61 rfl .nil rfl rfl rfl rfl) ?_
      first | refine JL.store_boxF 0 ty61 (.tmp rfl) rfl (.tmp rfl) (by first | rfl | assumption) (rfl) (rfl) rfl ?_ | refine JL.store_box 0 ty61 (.tmp rfl) rfl (.tmp rfl) (by first | rfl | assumption) rfl rfl rfl rfl ?_
      refine JL.q rfl rfl rfl (QW.assign .const) ?_
      refine JL.q rfl rfl rfl (QW.assign .const) ?_
      refine JL.q rfl rfl rfl (QW.assign .const) ?_
      refine JL.nil ?_
      refine thenQ.n ?_
      refine J.ret ?_
      refine blkQ.r ?_
      refine thenQ.r ?_
      exact ⟨_, selP [.k, .k] _, _, RetEv.four rfl (REv.cell 0 ty61 rfl rfl rfl rfl (.aggL (.cons (.refl _) (.cons (.refl _) (.cons (.nil true false eEv) .nil))))) (REv.tmp rfl (.nil true false eEv)) (REv.tmp rfl (.refl _)) (REv.tmp rfl (.refl _)), rfl, sel_perm [.k, .k] _, ⟨congrArg Res.ret (takeAV_of (q := ⟨lim, la, l⟩) (n := n) (q' := .nil) (l := []) (m := 0) (f := 4) (by simp [QT.take, hok]; omega)).symm, rfl⟩⟩
    · skip
      simp at c2
      have hcut : (min n (l.length : Int)) = (QT.cut ⟨lim, la, l⟩ n : Nat) := by (simp only [QT.cut]; omega)
      refine J.skip ?_
      refine blkQ.n ?_
      refine thenQ.n ?_
      refine J.seq ?_
      refine J.region_lit ?_
      refine JL.q rfl rfl rfl (QW.move (.tmp rfl)) ?_
      refine JL.q rfl rfl rfl (QW.field_ptr fo61_2 (.tmp rfl) rfl) ?_
      refine JL.q rfl rfl rfl (QW.load_box1 1 ty56 (.tmp rfl) rfl rfl) ?_
      refine JL.q rfl rfl rfl (by first | exact QW.len_slE sl56 (.tmp rfl) (EvT.css_length _ _) | exact QW.len_sl sl56 (.tmp rfl) | exact QW.len_nil sl56 (.tmp rfl)) ?_
      refine JL.q rfl rfl rfl (QW.min2 (.tmp rfl) (.tmp rfl)) ?_
      refine JL.q rfl rfl rfl (QW.assign (.tmp rfl)) ?_
      refine JL.nil ?_
      refine thenQ.n ?_
      refine J.seq ?_
      refine J.region_lit ?_
      refine JL.q rfl rfl rfl (QW.load_box 1 ty61 (.tmp rfl) rfl rfl rfl) ?_
      refine JL.q rfl rfl rfl (QW.call gofn90 (.cons (.tmp rfl) .nil) (rqown_rd Qc.mk hw)) ?_
      refine JL.alloc z61 rfl rfl fun b8 => ?_
      first | refine JL.store_boxF 0 ty61 (.tmp rfl) rfl (.tmp rfl) (by first | rfl | assumption) (rfl) (rfl) rfl ?_ | refine JL.store_box 0 ty61 (.tmp rfl) rfl (.tmp rfl) (by first | rfl | assumption) rfl rfl rfl rfl ?_
      refine JL.nil ?_
      refine thenQ.n ?_
      refine J.seq ?_
      refine J.region_lit ?_
      refine JL.q rfl rfl rfl (QW.field_ptr fo61_2 (.tmp rfl) rfl) ?_
      refine JL.q rfl rfl rfl (QW.load_box1 2 ty56 (.tmp rfl) rfl rfl) ?_
      refine JL.q rfl rfl rfl (QW.move (.tmp rfl)) ?_
      refine JL.q rfl rfl rfl (QW.slice_L sl56 ty70 rfl (.tmp rfl) (Ev.le (.tmp rfl) (Le.intE (show _ = ((QT.cut ⟨lim, la, l⟩ n : Nat) : Int) from by simp only [QT.cut]; first | omega | (split <;> omega)))) rfl (by rw [EvT.css_length]; exact Nat.min_le_right _ _)) ?_
      refine JL.q rfl rfl rfl (QW.call gofn91 (.cons (Ev.le (.tmp rfl) (by rw [EvT.css_drop]; exact .refl _)) .nil) (revents_ok (fr := fr) (c := false) (hev.drop (QT.cut ⟨lim, la, l⟩ n)))) ?_
      refine JL.q rfl rfl rfl (QW.field_ptr fo61_2 (.tmp rfl) rfl) ?_
      refine JL.store_box 0 ty56 (.tmp rfl) rfl (.tmp rfl) (by first | rfl | assumption) rfl rfl rfl rfl ?_
      refine JL.nil ?_
      refine thenQ.n ?_
      refine J.seq ?_
      refine J.seq ?_
      refine J.region_lit ?_
      refine JL.q rfl rfl rfl (QW.move (.tmp rfl)) ?_
      refine JL.q rfl rfl rfl (QW.eql (.tmp rfl) .const) ?_
      refine JL.nil ?_
      refine thenQ.n ?_
      refine J.cond (.tmp rfl) (fun c3 => ?_) (fun c3 => ?_)
      · skip
        skip
        refine J.seq ?_
        refine J.region_lit ?_
        refine JL.q rfl rfl rfl (QW.load_box 0 ty61 (.tmp rfl) rfl rfl rfl) ?_
        first | refine JL.store_boxF 1 ty61 (.tmp rfl) rfl (.tmp rfl) (by first | rfl | assumption) (rfl) (rfl) rfl ?_ | refine JL.store_box 1 ty61 (.tmp rfl) rfl (.tmp rfl) (by first | rfl | assumption) rfl rfl rfl rfl ?_
        refine JL.q rfl rfl rfl (QW.assign .const) ?_
        refine JL.q rfl rfl rfl (QW.assign .const) ?_
        refine JL.q rfl rfl rfl (QW.assign .const) ?_
        refine JL.nil ?_
        refine thenQ.n ?_
        refine J.ret ?_
        refine thenQ.r ?_
        have hc : QT.cut ⟨lim, la, l⟩ n = 0 := by (simp at c3; simp only [QT.cut] at *; first | omega | (split at c3 <;> omega))
        exact ⟨_, selP [.k, .k, .k] _, _, RetEv.four rfl (REv.cell 1 ty61 rfl rfl rfl rfl (.refl _)) (REv.tmp rfl (.nil true false eEv)) (REv.tmp rfl (.refl _)) (REv.tmp rfl (.refl _)), rfl, sel_perm [.k, .k, .k] _, ⟨congrArg Res.ret (takeAV_of (q := ⟨lim, la, l⟩) (n := n) (q' := ⟨lim, la, l.drop (QT.cut ⟨lim, la, l⟩ n)⟩) (l := []) (m := 0) (f := 0) (by simp [QT.take, hok, hc]; omega)).symm, rfl⟩⟩
      · skip
        skip
        refine J.skip ?_
        refine thenQ.n ?_
        refine J.seq ?_
        refine J.region_outK 15 1 (fun os_ ow_ x_ o_ => match os_ with | [] => (x_ = .c undef ∧ o_ = ow_.set 1 (.box b4 [.c (.int .i64 lim), .c (.int .i64 la), evsAV (l.drop (QT.cut ⟨lim, la, l⟩ n))])) | _ => False) mixed (by kernel_rfl) (by kernel_rfl) (by kernel_rfl) rfl ?_
        refine OutK.quiet [] rfl rfl rfl (fun qs_ qv_ ql_ => by
            rcases qs_ with _ | ⟨⟨y0, p0⟩, qs_⟩
            · skip
              exact (.q rfl (QW.load_box 0 ty61 (.tmp rfl) rfl rfl rfl))
            rcases qs_ with _ | ⟨⟨y1, p1⟩, qs_⟩
            · skip
              obtain ⟨hr0, _⟩ := qv_
              obtain ⟨rfl, rfl⟩ := hr0
              exact (.q rfl (QW.load_box 0 ty61 (.tmp rfl) rfl rfl rfl))
            exact absurd ql_ (by simp)) ?_
        refine OutK.quiet [] rfl rfl rfl (fun qs_ qv_ ql_ => (.q rfl (QW.field_ptr fo61_2 (.tmp rfl) rfl))) ?_
        refine OutK.quiet [35] rfl rfl rfl (fun qs_ qv_ ql_ => by
            rcases qs_ with _ | ⟨⟨y0, p0⟩, qs_⟩
            · skip
              exact (.q rfl (QW.load_box1 2 ty56 (.tmp rfl) rfl rfl))
            rcases qs_ with _ | ⟨⟨y1, p1⟩, qs_⟩
            · skip
              obtain ⟨hr0, _⟩ := qv_
              obtain ⟨rfl, rfl⟩ := hr0
              exact (.q rfl (QW.load_box1 2 ty56 (.tmp rfl) rfl rfl))
            exact absurd ql_ (by simp)) ?_
        refine OutK.quiet [] rfl rfl rfl (fun qs_ qv_ ql_ => (.q rfl (QW.move (.tmp rfl)))) ?_
        refine OutK.quiet [36, 37] rfl rfl rfl (fun qs_ qv_ ql_ => (.q rfl (QW.slice_H sl56 ty70 rfl (.tmp rfl) (Ev.le (.tmp rfl) (Le.intE (show _ = ((QT.cut ⟨lim, la, l⟩ n : Nat) : Int) from by simp only [QT.cut]; first | omega | (split <;> omega)))) rfl (by rw [EvT.css_length]; exact Nat.min_le_right _ _)))) ?_
        refine OutK.quiet [38] rfl rfl rfl (fun qs_ qv_ ql_ => (.q rfl (QW.call gofn91 (.cons (Ev.le (.tmp rfl) (by rw [EvT.css_take]; exact .refl _)) .nil) (revents_ok (fr := fr) (c := false) (hev.take (QT.cut ⟨lim, la, l⟩ n)))))) ?_
        refine OutK.quiet [] rfl rfl rfl (fun qs_ qv_ ql_ => (.q rfl (QW.field_ptr fo61_1 (.tmp rfl) rfl))) ?_
        refine OutK.quiet [40] rfl rfl rfl (fun qs_ qv_ ql_ => by
            rcases qs_ with _ | ⟨⟨y0, p0⟩, qs_⟩
            · skip
              exact (.q rfl (QW.load_box1 2 ty3 (.tmp rfl) rfl rfl))
            rcases qs_ with _ | ⟨⟨y1, p1⟩, qs_⟩
            · skip
              obtain ⟨hr0, _⟩ := qv_
              obtain ⟨rfl, rfl⟩ := hr0
              exact (.q rfl (QW.load_box1 2 ty3 (.tmp rfl) rfl rfl))
            exact absurd ql_ (by simp)) ?_
        refine OutK.quiet [] rfl rfl rfl (fun qs_ qv_ ql_ => (.q rfl (QW.field_ptr fo61_2 (.tmp rfl) rfl))) ?_
        refine OutK.quiet [42] rfl rfl rfl (fun qs_ qv_ ql_ => by
            rcases qs_ with _ | ⟨⟨y0, p0⟩, qs_⟩
            · skip
              exact (.q rfl (QW.load_box1 2 ty56 (.tmp rfl) rfl rfl))
            rcases qs_ with _ | ⟨⟨y1, p1⟩, qs_⟩
            · skip
              obtain ⟨hr0, _⟩ := qv_
              obtain ⟨rfl, rfl⟩ := hr0
              exact (.q rfl (QW.load_box1 2 ty56 (.tmp rfl) rfl rfl))
            exact absurd ql_ (by simp)) ?_
        refine OutK.quiet [43] rfl rfl rfl (fun qs_ qv_ ql_ => (.q rfl (by first | exact QW.len_slE sl56 (.tmp rfl) (EvT.css_length _ _) | exact QW.len_sl sl56 (.tmp rfl) | exact QW.len_nil sl56 (.tmp rfl)))) ?_
        refine OutK.quiet [41, 44] rfl rfl rfl (fun qs_ qv_ ql_ => (.q rfl (QW.sub (.tmp rfl) (.tmp rfl) (by first | exact w64n (by first | rfl | omega | (simp; done)) (by omega) | exact w64 (by omega) | rfl)))) ?_
        refine OutK.quiet [45] rfl rfl rfl (fun qs_ qv_ ql_ => (.q rfl (QW.add (.tmp rfl) .const (by first | exact w64n (by first | rfl | omega | (simp; done)) (by omega) | exact w64 (by omega) | rfl)))) ?_
        refine OutK.store [34] rfl (fun qs_ ow x o h ql_ => by
            obtain rfl : qs_ = [] := List.length_eq_zero_iff.1 (by simpa using ql_)
            exact h.1) rfl rfl rfl (fun qs_ qv_ ql_ => by
            obtain rfl : qs_ = [] := List.length_eq_zero_iff.1 ql_
            exact LStep.toR rfl (by first | exact LStep.store_boxF 1 ty61 (.tmp rfl) rfl (.tmp rfl) (by first | rfl | assumption) (rfl) (rfl) rfl | exact LStep.store_box 1 ty61 (.tmp rfl) rfl (.tmp rfl) (by first | rfl | assumption) rfl rfl rfl rfl) ⟨rfl, rfl⟩) ?_
        refine OutK.quiet [39] rfl rfl rfl (fun qs_ qv_ ql_ => (.q rfl (QW.assign (.tmp rfl)))) ?_
        refine .nil fun qs_ qv_ ql_ => ?_
        obtain ⟨⟨y0, p0⟩, qs_, rfl⟩ : ∃ p t, qs_ = p :: t := by (cases qs_ with | nil => simp at ql_ | cons p t => exact ⟨p, t, rfl⟩)
        obtain rfl : qs_ = [] := List.length_eq_zero_iff.1 (by simpa using ql_)
        obtain ⟨hr0, _⟩ := qv_
        obtain ⟨rfl, rfl⟩ := hr0
        refine JL.conv (by (try simp only [stepsO, List.map_cons, List.map_nil, valO, nthO, curO, mrg, List.reverse_cons, List.reverse_nil, List.nil_append, List.cons_append, List.append_nil, List.getElem?_cons_zero, List.getElem?_cons_succ, Option.map_some, Option.getD_some, List.set_cons_zero, List.set_cons_succ, AV.cellsOf, splice_zero, splice_succ, Nat.zero_add, Nat.reduceAdd]); rfl) ?_
        refine JL.q rfl rfl rfl (QW.assign (.tmp rfl)) ?_
        refine JL.q rfl rfl rfl (QW.assign .const) ?_
        refine JL.nil ?_
        refine thenQ.n ?_
        refine J.ret ?_
        have hc : 0 < QT.cut ⟨lim, la, l⟩ n := by (simp at c3; simp only [QT.cut] at *; first | omega | (split at c3 <;> omega))
        exact ⟨_, selP [.k, .k, .k] _, _, RetEv.four rfl (REv.cell 1 ty61 rfl rfl rfl rfl (.refl _)) (REv.tmp rfl (.refl _)) (REv.tmp rfl (.refl _)) (REv.tmp rfl (.refl _)), rfl, sel_perm [.k, .k, .k] _, ⟨congrArg Res.ret (takeAV_of (q := ⟨lim, la, l⟩) (n := n) (q' := ⟨lim, la, l.drop (QT.cut ⟨lim, la, l⟩ n)⟩) (l := l.take (QT.cut ⟨lim, la, l⟩ n)) (m := la - (l.length : Int) + 1) (f := 0) (by simp [QT.take, hok, hc]; omega)).symm, rfl⟩⟩

end Go.Proofs.Ytkiankpmkglhcaa.J

/- Walks: two queues alike; the page's example; QueueNew. -/
namespace Go.Proofs.Ytkiankpmkglhcaa.J
open Go Go.RowKit
set_option linter.unusedVariables false
set_option linter.unusedSimpArgs false
set_option maxRecDepth 10000
set_option maxHeartbeats 4000000

theorem EvT.sameQ {a b c d : Int} {l m : List EvT} (h1 : a = c) (h2 : b = d) (h3 : l = m) : QT.mk a b l = QT.mk c d m := by rw [h1, h2, h3]

theorem num18_ok (e : Int) : Fn Try.prog 40 [.c (.int .i64 e)] (.c (.int .i64 e)) := by
  refine AC.of_J Try.func40 rfl Try.ntmps40 rfl fun w0 A0 => ?_
  refine J.seq ?_
  refine J.region_lit ?_
  refine JL.q rfl rfl rfl (QW.assign .const) ?_
  refine JL.nil ?_
  refine thenQ.n ?_
  refine J.seq ?_
  refine J.region_lit ?_
  refine JL.q rfl rfl rfl (QW.move (.tmp rfl)) ?_
  refine JL.q rfl rfl rfl (QW.assign (.tmp rfl)) ?_
  refine JL.nil ?_
  refine thenQ.n ?_
  refine J.ret ?_
  exact ⟨_, selP [] _, _, RetEv.one rfl (REv.tmp rfl (.refl _)), rfl, sel_perm [] _, ⟨rfl, rfl⟩⟩

theorem alike18_ok {fr fr2 : Bool} {p q : QT} {ys zs : List AV} (hp : Qc fr p ys) (hq : Qc fr2 q zs) (hw : p.wf) (hw2 : q.wf) : Fn Try.prog 39 [.agg ys, .agg zs] (.c (.int .i64 (if p = q then 0 else 1))) := by
  obtain ⟨a, b, l⟩ := p
  obtain ⟨c, d, m⟩ := q
  subst hp hq
  obtain ⟨-, -, hl⟩ := hw
  obtain ⟨-, -, hm⟩ := hw2
  simp only at hl hm
  refine AC.of_J Try.func39 rfl Try.ntmps39 rfl fun w0 A0 => ?_
  refine J.seq ?_
  refine J.region_lit ?_
  refine JL.box_agg (.tmp rfl) rfl fun b2 => ?_
  refine JL.box_agg (.tmp rfl) rfl fun b3 => ?_
  refine JL.q rfl rfl rfl (QW.assign .const) ?_
  refine JL.nil ?_
  refine thenQ.n ?_
  refine J.seq ?_
  refine J.seq ?_
  refine J.region_lit ?_
  refine JL.q rfl rfl rfl (QW.field_ptr fo58_0 (.tmp rfl) rfl) ?_
  refine JL.q rfl rfl rfl (QW.load_box1 1 ty3 (.tmp rfl) rfl rfl) ?_
  refine JL.q rfl rfl rfl (QW.field_ptr fo61_0 (.tmp rfl) rfl) ?_
  refine JL.q rfl rfl rfl (QW.load_box1 0 ty3 (.tmp rfl) rfl rfl) ?_
  refine JL.q rfl rfl rfl (QW.neq (.tmp rfl) (.tmp rfl)) ?_
  refine JL.q rfl rfl rfl (QW.move (.tmp rfl)) ?_
  refine JL.g rfl rfl rfl rfl rfl (fun hg => (QW.field_ptr fo58_1 (.tmp rfl) rfl)) ?_
  refine JL.g rfl rfl rfl rfl rfl (fun hg => (QW.load_box1 1 ty3 (.when rfl hg) rfl rfl)) ?_
  refine JL.g rfl rfl rfl rfl rfl (fun hg => (QW.field_ptr fo61_1 (.tmp rfl) rfl)) ?_
  refine JL.g rfl rfl rfl rfl rfl (fun hg => (QW.load_box1 0 ty3 (.when rfl hg) rfl rfl)) ?_
  refine JL.g rfl rfl rfl rfl rfl (fun hg => (QW.neq (.when rfl hg) (.when rfl hg))) ?_
  refine JL.q rfl rfl rfl (QW.pick_or (.tmp rfl) (.tmp rfl)) ?_
  refine JL.q rfl rfl rfl (QW.move (.tmp rfl)) ?_
  refine JL.g rfl rfl rfl rfl rfl (fun hg => (QW.field_ptr fo58_2 (.tmp rfl) rfl)) ?_
  refine JL.g rfl rfl rfl rfl rfl (fun hg => (QW.load_box1 1 ty56 (.when rfl hg) rfl rfl)) ?_
  refine JL.g rfl rfl rfl rfl rfl (fun hg => (QW.field_ptr fo61_2 (.tmp rfl) rfl)) ?_
  refine JL.g rfl rfl rfl rfl rfl (fun hg => (QW.load_box1 0 ty56 (.when rfl hg) rfl rfl)) ?_
  refine JL.g rfl rfl rfl rfl rfl (fun hg => (QW.call gofn44 (.cons (.when rfl hg) (.cons (.when rfl hg) .nil)) (sameEvents_ok hl hm))) ?_
  refine JL.g rfl rfl rfl rfl rfl (fun hg => (QW.not (.when rfl hg))) ?_
  refine JL.q rfl rfl rfl (QW.pick_or (.tmp rfl) (.tmp rfl)) ?_
  refine JL.nil ?_
  refine thenQ.n ?_
  refine J.cond (.tmp rfl) (fun c1 => ?_) (fun c1 => ?_)
  · skip
    refine J.seq ?_
    refine J.region_lit ?_
    refine JL.q rfl rfl rfl (QW.assign .const) ?_
    refine JL.nil ?_
    refine thenQ.n ?_
    refine J.ret ?_
    refine thenQ.r ?_
    exact ⟨_, selP [.k, .k] _, _, RetEv.one rfl (REv.tmp rfl (.refl _)), rfl, sel_perm [.k, .k] _, ⟨by rw [if_neg]; intro e; simp at e; obtain ⟨rfl, rfl, rfl⟩ := e; simp at c1, rfl⟩⟩
  · skip
    refine J.skip ?_
    refine thenQ.n ?_
    refine J.seq ?_
    refine J.region_lit ?_
    refine JL.q rfl rfl rfl (QW.assign .const) ?_
    refine JL.nil ?_
    refine thenQ.n ?_
    refine J.ret ?_
    exact ⟨_, selP [.k, .k] _, _, RetEv.one rfl (REv.tmp rfl (.refl _)), rfl, sel_perm [.k, .k] _, ⟨by rw [if_pos]; simp at c1; obtain ⟨⟨h1, h2⟩, h3⟩ := c1; exact EvT.sameQ h1 h2 h3, rfl⟩⟩

theorem of18_ok {fr : Bool} {q : QT} {ys : List AV} (hq : Qc fr q ys) (hw : q.wf) : Fn Try.prog 45 [.agg ys] q.av := by
  obtain ⟨lim, la, l⟩ := q
  subst hq
  obtain ⟨-, -, hl⟩ := hw
  simp only at hl
  refine AC.of_J Try.func45 rfl Try.ntmps45 rfl fun w0 A0 => ?_
  refine J.seq ?_
  refine J.region_lit ?_
  refine JL.box_agg (.tmp rfl) rfl fun b1 => ?_
  refine JL.alloc z58 rfl rfl fun b2 => ?_
  refine JL.nil ?_
  refine thenQ.n ?_
  refine J.seq ?_
  refine J.region_tailK 7 mixed (by kernel_rfl) (by kernel_rfl) (by kernel_rfl) rfl ?_
  refine .cons [] rfl rfl rfl (.q rfl (QW.field_ptr fo61_0 (.tmp rfl) rfl)) ?_
  refine .cons [3] rfl rfl rfl (.q rfl (QW.load_box1 1 ty3 (.tmp rfl) rfl rfl)) ?_
  refine .cons [] rfl rfl rfl (.q rfl (QW.field_ptr fo61_1 (.tmp rfl) rfl)) ?_
  refine .cons [5] rfl rfl rfl (.q rfl (QW.load_box1 1 ty3 (.tmp rfl) rfl rfl)) ?_
  refine .cons [] rfl rfl rfl (.q rfl (QW.field_ptr fo61_2 (.tmp rfl) rfl)) ?_
  refine .cons [7] rfl rfl rfl (.q rfl (QW.load_box1 1 ty56 (.tmp rfl) rfl rfl)) ?_
  refine .cons [8] rfl rfl rfl (.q rfl (QW.call gofn88 (.cons (.tmp rfl) .nil) (copyEvents_rd hl))) ?_
  refine .nil ?_
  refine JL.q rfl rfl rfl (QW.build (idx := [0, 1, 2]) pl58 z58 rfl (.cons (.tmp rfl) (.cons (.tmp rfl) (.cons (.tmp rfl) .nil))) rfl rfl rfl rfl) ?_
  first | refine JL.store_boxF 0 ty58 (.tmp rfl) rfl (.tmp rfl) (by first | rfl | assumption) (rfl) (rfl) rfl ?_ | refine JL.store_box 0 ty58 (.tmp rfl) rfl (.tmp rfl) (by first | rfl | assumption) rfl rfl rfl rfl ?_
  refine JL.nil ?_
  refine thenQ.n ?_
  refine J.ret ?_
  exact ⟨_, selP [.k, .k] _, _, RetEv.one rfl (REv.cell 0 ty58 rfl rfl rfl rfl (.refl _)), rfl, sel_perm [.k, .k] _, ⟨rfl, rfl⟩⟩

def QT.new (n : Int) : QT := if n < 1 ∨ 64 < n then .nil else ⟨n, 0, []⟩
def newErr (n : Int) : Int := if n < 1 ∨ 64 < n then 4 else 0
theorem QT.new_wf (n : Int) (hn : -9223372036854775808 ≤ n ∧ n ≤ 9223372036854775807) : (QT.new n).wf := by
  unfold QT.new; split
  · exact ⟨by decide, by decide, EvT.wfs_nil⟩
  · exact ⟨hn, by simp only; omega, EvT.wfs_nil⟩
theorem qnew {n : Int} : Fn Try.prog 37 [.c (.int .i64 n)] (.tup [(QT.new n).av, .c (.int .i64 (newErr n))]) := by
  have h := qnew_ok n
  unfold QT.new newErr
  split at h <;> rename_i hc <;> (simp only [hc, if_true, if_false]; exact h)
theorem rqnew {n : Int} : Fn Try.prog 38 [.c (.int .i64 n)] (.tup [(QT.new n).av, .c (.int .i64 (newErr n))]) := by
  have h := rqnew_ok n
  unfold QT.new newErr
  split at h <;> rename_i hc <;> (simp only [hc, if_true, if_false]; exact h)
def evA : EvT := ⟨[97], .nil⟩
def evB : EvT := ⟨[98], .nil⟩
theorem V.nil_wf : V.nil.wf := .mk (by decide) (by decide) (by decide) (by decide) (by decide) (fun _ h => by cases h) (fun _ h => by cases h)
theorem evA_wf : evA.wf := ⟨by decide, V.nil_wf⟩
theorem evB_wf : evB.wf := ⟨by decide, V.nil_wf⟩
theorem evAB_wf : EvT.wfs [evA, evB] := ⟨by decide, fun e h => by
  rcases List.mem_cons.1 h with rfl | h
  · exact evA_wf
  · rcases List.mem_cons.1 h with rfl | h
    · exact evB_wf
    · cases h⟩
theorem QT.wf_of {a b : Int} {l : List EvT} (h1 : 0 ≤ a ∧ a ≤ 9223372036854775807) (h2 : 0 ≤ b ∧ b ≤ 9223372036854775807) (h : EvT.wfs l) : (QT.mk a b l).wf := ⟨⟨by simp only; omega, by simp only; omega⟩, ⟨by simp only; omega, by simp only; omega⟩, h⟩
theorem ev_nil_le {F : List (Value × AV)} {n : Str} : Le F (.agg [.c (str n), .c (.int .i64 0), .c (.int .u64 0), .c (str []), .c (.slice none 0 0), .c (.slice none 0 0)]) (.agg (EvT.cs true ⟨n, .nil⟩)) :=
  .aggL (.cons (.refl _) (.cons (.refl _) (.cons (.refl _) (.cons (.refl _) (.cons (.nil true false _) (.cons (.nil true false _) .nil))))))
theorem qnew4 : Fn Try.prog 37 [.c (.int .i64 4)] (.tup [(QT.mk 4 0 []).av, .c (.int .i64 0)]) := qnew_ok 4
theorem push1 : pushAV ⟨4, 0, []⟩ evA = .tup [(QT.mk 4 1 [evA]).av, .c (.int .i64 1), .c (.int .i64 0)] := pushAV_of (by decide)
theorem push2 : pushAV ⟨4, 1, [evA]⟩ evB = .tup [(QT.mk 4 2 [evA, evB]).av, .c (.int .i64 2), .c (.int .i64 0)] := pushAV_of (by decide)
theorem take1 : takeAV ⟨4, 2, [evA, evB]⟩ 1 = .tup [(QT.mk 4 2 [evB]).av, evsAV [evA], .c (.int .i64 1), .c (.int .i64 0)] := takeAV_of (by decide)

theorem alive18_ok : Fn Try.prog 41 [] (.c (.bool true)) := by
  refine AC.of_J Try.func41 rfl Try.ntmps41 rfl fun w0 A0 => ?_
  refine J.seq ?_
  refine J.region_lit ?_
  refine JL.q rfl rfl rfl (QW.assign .const) ?_
  refine JL.nil ?_
  refine thenQ.n ?_
  refine J.seq ?_
  refine J.region_lit ?_
  refine JL.q rfl rfl rfl (QW.call gofn37 (.cons .const .nil) (qnew4)) ?_
  refine JL.q rfl rfl rfl (QW.move (.tmp rfl)) ?_
  refine JL.q rfl rfl rfl (QW.extract (.tmp rfl) rfl) ?_
  refine JL.q rfl rfl rfl (QW.extract (.tmp rfl) rfl) ?_
  refine JL.alloc z58 rfl rfl fun b1 => ?_
  first | refine JL.store_boxF 0 ty58 (.tmp rfl) rfl (.tmp rfl) (by first | rfl | assumption) (rfl) (rfl) rfl ?_ | refine JL.store_box 0 ty58 (.tmp rfl) rfl (.tmp rfl) (by first | rfl | assumption) rfl rfl rfl rfl ?_
  refine JL.q rfl rfl rfl (QW.assign (.tmp rfl)) ?_
  refine JL.nil ?_
  refine thenQ.n ?_
  refine J.seq ?_
  refine J.region_lit ?_
  refine JL.q rfl rfl rfl (QW.load_box 0 ty58 (.tmp rfl) rfl rfl rfl) ?_
  refine JL.q rfl rfl rfl (QW.build (idx := [0]) pl70 z70 rfl (.cons .const .nil) rfl rfl rfl rfl) ?_
  refine JL.q rfl rfl rfl (QW.call gofn42 (.cons (.tmp rfl) (.cons (Ev.le (.tmp rfl) (ev_nil_le)) .nil)) (push1 ▸ qpush_ok Qc.self Ec.self (QT.wf_of (by decide) (by decide) EvT.wfs_nil) evA_wf)) ?_
  refine JL.q rfl rfl rfl (QW.move (.tmp rfl)) ?_
  refine JL.q rfl rfl rfl (QW.extract (.tmp rfl) rfl) ?_
  refine JL.q rfl rfl rfl (QW.extract (.tmp rfl) rfl) ?_
  refine JL.q rfl rfl rfl (QW.extract (.tmp rfl) rfl) ?_
  first | refine JL.store_boxF 0 ty58 (.tmp rfl) rfl (.tmp rfl) (by first | rfl | assumption) (rfl) (rfl) rfl ?_ | refine JL.store_box 0 ty58 (.tmp rfl) rfl (.tmp rfl) (by first | rfl | assumption) rfl rfl rfl rfl ?_
  refine JL.q rfl rfl rfl (QW.assign (.tmp rfl)) ?_
  refine JL.q rfl rfl rfl (QW.assign (.tmp rfl)) ?_
  refine JL.nil ?_
  refine thenQ.n ?_
  refine J.seq ?_
  refine J.region_lit ?_
  refine JL.q rfl rfl rfl (QW.load_box 0 ty58 (.tmp rfl) rfl rfl rfl) ?_
  refine JL.q rfl rfl rfl (QW.build (idx := [0]) pl70 z70 rfl (.cons .const .nil) rfl rfl rfl rfl) ?_
  refine JL.q rfl rfl rfl (QW.call gofn42 (.cons (.tmp rfl) (.cons (Ev.le (.tmp rfl) (ev_nil_le)) .nil)) (push2 ▸ qpush_ok Qc.self Ec.self (QT.wf_of (by decide) (by decide) (EvT.wfs.one evA_wf)) evB_wf)) ?_
  refine JL.q rfl rfl rfl (QW.move (.tmp rfl)) ?_
  refine JL.q rfl rfl rfl (QW.extract (.tmp rfl) rfl) ?_
  refine JL.q rfl rfl rfl (QW.extract (.tmp rfl) rfl) ?_
  refine JL.q rfl rfl rfl (QW.extract (.tmp rfl) rfl) ?_
  first | refine JL.store_boxF 0 ty58 (.tmp rfl) rfl (.tmp rfl) (by first | rfl | assumption) (rfl) (rfl) rfl ?_ | refine JL.store_box 0 ty58 (.tmp rfl) rfl (.tmp rfl) (by first | rfl | assumption) rfl rfl rfl rfl ?_
  refine JL.q rfl rfl rfl (QW.assign (.tmp rfl)) ?_
  refine JL.q rfl rfl rfl (QW.assign (.tmp rfl)) ?_
  refine JL.nil ?_
  refine thenQ.n ?_
  refine J.seq ?_
  refine J.region_lit ?_
  refine JL.q rfl rfl rfl (QW.load_box 0 ty58 (.tmp rfl) rfl rfl rfl) ?_
  refine JL.q rfl rfl rfl (QW.call gofn43 (.cons (.tmp rfl) (.cons .const .nil)) (take1 ▸ qtake_ok Qc.self 1 (QT.wf_of (by decide) (by decide) evAB_wf))) ?_
  refine JL.q rfl rfl rfl (QW.move (.tmp rfl)) ?_
  refine JL.q rfl rfl rfl (QW.extract (.tmp rfl) rfl) ?_
  refine JL.q rfl rfl rfl (QW.extract (.tmp rfl) rfl) ?_
  refine JL.q rfl rfl rfl (QW.extract (.tmp rfl) rfl) ?_
  refine JL.q rfl rfl rfl (QW.extract (.tmp rfl) rfl) ?_
  first | refine JL.store_boxF 0 ty58 (.tmp rfl) rfl (.tmp rfl) (by first | rfl | assumption) (rfl) (rfl) rfl ?_ | refine JL.store_box 0 ty58 (.tmp rfl) rfl (.tmp rfl) (by first | rfl | assumption) rfl rfl rfl rfl ?_
  refine JL.q rfl rfl rfl (QW.assign (.tmp rfl)) ?_
  refine JL.q rfl rfl rfl (QW.assign (.tmp rfl)) ?_
  refine JL.q rfl rfl rfl (QW.assign (.tmp rfl)) ?_
  refine JL.nil ?_
  refine thenQ.n ?_
  refine J.seq ?_
  refine J.region_lit ?_
  refine JL.q rfl rfl rfl (QW.move (.tmp rfl)) ?_
  refine JL.q rfl rfl rfl (QW.call gofn40 (.cons (.tmp rfl) .nil) (num18_ok _)) ?_
  refine JL.q rfl rfl rfl (QW.move (.tmp rfl)) ?_
  refine JL.q rfl rfl rfl (QW.call gofn40 (.cons (.tmp rfl) .nil) (num18_ok _)) ?_
  refine JL.q rfl rfl rfl (QW.add (.tmp rfl) (.tmp rfl) (by first | exact w64n (by first | rfl | omega | (simp; done)) (by omega) | exact w64 (by omega) | rfl)) ?_
  refine JL.q rfl rfl rfl (QW.move (.tmp rfl)) ?_
  refine JL.q rfl rfl rfl (QW.call gofn40 (.cons (.tmp rfl) .nil) (num18_ok _)) ?_
  refine JL.q rfl rfl rfl (QW.add (.tmp rfl) (.tmp rfl) (by first | exact w64n (by first | rfl | omega | (simp; done)) (by omega) | exact w64 (by omega) | rfl)) ?_
  refine JL.q rfl rfl rfl (QW.move (.tmp rfl)) ?_
  refine JL.q rfl rfl rfl (QW.call gofn40 (.cons (.tmp rfl) .nil) (num18_ok _)) ?_
  refine JL.q rfl rfl rfl (QW.add (.tmp rfl) (.tmp rfl) (by first | exact w64n (by first | rfl | omega | (simp; done)) (by omega) | exact w64 (by omega) | rfl)) ?_
  refine JL.q rfl rfl rfl (QW.eql (.tmp rfl) .const) ?_
  refine JL.q rfl rfl rfl (QW.move (.tmp rfl)) ?_
  refine JL.g rfl rfl rfl rfl rfl (fun hg => (QW.move (.tmp rfl))) ?_
  refine JL.g rfl rfl rfl rfl rfl (fun hg => (QW.eql (.when rfl hg) .const)) ?_
  refine JL.q rfl rfl rfl (QW.pick_and (.tmp rfl) (.tmp rfl)) ?_
  refine JL.q rfl rfl rfl (QW.move (.tmp rfl)) ?_
  refine JL.g rfl rfl rfl rfl rfl (fun hg => (QW.move (.tmp rfl))) ?_
  refine JL.g rfl rfl rfl rfl rfl (fun hg => (QW.eql (.when rfl hg) .const)) ?_
  refine JL.q rfl rfl rfl (QW.pick_and (.tmp rfl) (.tmp rfl)) ?_
  refine JL.q rfl rfl rfl (QW.move (.tmp rfl)) ?_
  refine JL.g rfl rfl rfl rfl rfl (fun hg => (QW.move (.tmp rfl))) ?_
  refine JL.g rfl rfl rfl rfl rfl (fun hg => (by first | exact QW.len_slE sl56 (.when rfl hg) (EvT.css_length _ _) | exact QW.len_sl sl56 (.when rfl hg) | exact QW.len_nil sl56 (.when rfl hg))) ?_
  refine JL.g rfl rfl rfl rfl rfl (fun hg => (QW.eql (.when rfl hg) .const)) ?_
  refine JL.q rfl rfl rfl (QW.pick_and (.tmp rfl) (.tmp rfl)) ?_
  refine JL.q rfl rfl rfl (QW.move (.tmp rfl)) ?_
  refine JL.g rfl rfl rfl rfl rfl (fun hg => (QW.move (.tmp rfl))) ?_
  refine JL.g rfl rfl rfl rfl rfl (fun hg => (QW.index_sl sl56 ty70 rfl (.when rfl hg) .const (by first | rfl | omega | (simp; done)) (by rfl))) ?_
  refine JL.g rfl rfl rfl rfl rfl (fun hg => (QW.field_ref fo70_0 (.when rfl hg) rfl)) ?_
  refine JL.g rfl rfl rfl rfl rfl (fun hg => (QW.load_ref1 ty9 (.when rfl hg) rfl)) ?_
  refine JL.g rfl rfl rfl rfl rfl (fun hg => (QW.eql_s (.when rfl hg) .const)) ?_
  refine JL.q rfl rfl rfl (QW.pick_and (.tmp rfl) (.tmp rfl)) ?_
  refine JL.q rfl rfl rfl (QW.move (.tmp rfl)) ?_
  refine JL.g rfl rfl rfl rfl rfl (fun hg => (QW.move (.tmp rfl))) ?_
  refine JL.g rfl rfl rfl rfl rfl (fun hg => (QW.eql (.when rfl hg) .const)) ?_
  refine JL.q rfl rfl rfl (QW.pick_and (.tmp rfl) (.tmp rfl)) ?_
  refine JL.q rfl rfl rfl (QW.move (.tmp rfl)) ?_
  refine JL.g rfl rfl rfl rfl rfl (fun hg => (QW.field_ptr fo58_2 (.tmp rfl) rfl)) ?_
  refine JL.g rfl rfl rfl rfl rfl (fun hg => (QW.load_box1 0 ty56 (.when rfl hg) rfl rfl)) ?_
  refine JL.g rfl rfl rfl rfl rfl (fun hg => (by first | exact QW.len_slE sl56 (.when rfl hg) (EvT.css_length _ _) | exact QW.len_sl sl56 (.when rfl hg) | exact QW.len_nil sl56 (.when rfl hg))) ?_
  refine JL.g rfl rfl rfl rfl rfl (fun hg => (QW.eql (.when rfl hg) .const)) ?_
  refine JL.q rfl rfl rfl (QW.pick_and (.tmp rfl) (.tmp rfl)) ?_
  refine JL.q rfl rfl rfl (QW.assign (.tmp rfl)) ?_
  refine JL.nil ?_
  refine thenQ.n ?_
  refine J.ret ?_
  exact ⟨_, selP [.k] _, _, RetEv.one rfl (REv.tmp rfl (.refl _)), rfl, sel_perm [.k] _, ⟨rfl, rfl⟩⟩

theorem queueNew_ok (n : Int) (hn : -9223372036854775808 ≤ n ∧ n ≤ 9223372036854775807) : Fn Try.prog 9 [.c (.int .i64 n)] (.c (.bool true)) := by
  refine AC.of_J Try.func9 rfl Try.ntmps9 rfl fun w0 A0 => ?_
  refine J.seq ?_
  refine J.region_lit ?_
  refine JL.q rfl rfl rfl (QW.assign .const) ?_
  refine JL.nil ?_
  refine thenQ.n ?_
  refine J.seq ?_
  refine J.region_lit ?_
  refine JL.q rfl rfl rfl (QW.move (.tmp rfl)) ?_
  refine JL.q rfl rfl rfl (QW.call gofn37 (.cons (.tmp rfl) .nil) (qnew)) ?_
  refine JL.q rfl rfl rfl (QW.move (.tmp rfl)) ?_
  refine JL.q rfl rfl rfl (QW.extract (.tmp rfl) rfl) ?_
  refine JL.q rfl rfl rfl (QW.extract (.tmp rfl) rfl) ?_
  refine JL.alloc z58 rfl rfl fun b3 => ?_
  first | refine JL.store_boxF 0 ty58 (.tmp rfl) rfl (.tmp rfl) (by first | rfl | assumption) (rfl) (rfl) rfl ?_ | refine JL.store_box 0 ty58 (.tmp rfl) rfl (.tmp rfl) (by first | rfl | assumption) rfl rfl rfl rfl ?_
  refine JL.q rfl rfl rfl (QW.assign (.tmp rfl)) ?_
  refine JL.nil ?_
  refine thenQ.n ?_
  refine J.seq ?_
  refine J.region_lit ?_
  refine JL.q rfl rfl rfl (QW.move (.tmp rfl)) ?_
  refine JL.q rfl rfl rfl (QW.call gofn38 (.cons (.tmp rfl) .nil) (rqnew)) ?_
  refine JL.q rfl rfl rfl (QW.move (.tmp rfl)) ?_
  refine JL.q rfl rfl rfl (QW.extract (.tmp rfl) rfl) ?_
  refine JL.q rfl rfl rfl (QW.extract (.tmp rfl) rfl) ?_
  refine JL.alloc z61 rfl rfl fun b5 => ?_
  first | refine JL.store_boxF 0 ty61 (.tmp rfl) rfl (.tmp rfl) (by first | rfl | assumption) (rfl) (rfl) rfl ?_ | refine JL.store_box 0 ty61 (.tmp rfl) rfl (.tmp rfl) (by first | rfl | assumption) rfl rfl rfl rfl ?_
  refine JL.q rfl rfl rfl (QW.assign (.tmp rfl)) ?_
  refine JL.nil ?_
  refine thenQ.n ?_
  refine J.seq ?_
  refine J.region_lit ?_
  refine JL.q rfl rfl rfl (QW.load_box 1 ty58 (.tmp rfl) rfl rfl rfl) ?_
  refine JL.q rfl rfl rfl (QW.load_box 0 ty61 (.tmp rfl) rfl rfl rfl) ?_
  refine JL.q rfl rfl rfl (QW.call gofn39 (.cons (.tmp rfl) (.cons (.tmp rfl) .nil)) (alike18_ok Qc.self Qc.self (QT.new_wf n hn) (QT.new_wf n hn))) ?_
  refine JL.q rfl rfl rfl (QW.eql (.tmp rfl) .const) ?_
  refine JL.q rfl rfl rfl (QW.move (.tmp rfl)) ?_
  refine JL.g rfl rfl rfl rfl rfl (fun hg => (QW.move (.tmp rfl))) ?_
  refine JL.g rfl rfl rfl rfl rfl (fun hg => (QW.call gofn40 (.cons (.when rfl hg) .nil) (num18_ok _))) ?_
  refine JL.g rfl rfl rfl rfl rfl (fun hg => (QW.move (.tmp rfl))) ?_
  refine JL.g rfl rfl rfl rfl rfl (fun hg => (QW.eql (.when rfl hg) (.when rfl hg))) ?_
  refine JL.q rfl rfl rfl (QW.pick_and (.tmp rfl) (.tmp rfl)) ?_
  refine JL.q rfl rfl rfl (QW.move (.tmp rfl)) ?_
  refine JL.g rfl rfl rfl rfl rfl (fun hg => (QW.call gofn41 .nil (alive18_ok))) ?_
  refine JL.q rfl rfl rfl (QW.pick_and (.tmp rfl) (.tmp rfl)) ?_
  refine JL.q rfl rfl rfl (QW.assign (.tmp rfl)) ?_
  refine JL.nil ?_
  refine thenQ.n ?_
  refine J.ret ?_
  exact ⟨_, selP [.k, .k] _, _, RetEv.one rfl (REv.tmp rfl (.refl _)), rfl, sel_perm [.k, .k] _, ⟨by simp, rfl⟩⟩

end Go.Proofs.Ytkiankpmkglhcaa.J

/- Walks: the page's acknowledgement; the page's example; OutboxTells. -/
namespace Go.Proofs.Ytkiankpmkglhcaa.J
open Go Go.RowKit
set_option linter.unusedVariables false
set_option linter.unusedSimpArgs false
set_option maxRecDepth 10000
set_option maxHeartbeats 4000000

theorem filt_no {n : Int} {l : List ItT} {j : Nat} (h : j < l.length) (he : l[j].id = n) : ((l.take (j + 1)).filter fun x => decide (x.id ≠ n)) = ((l.take j).filter fun x => decide (x.id ≠ n)) ∧ ((l.take (j + 1)).any fun x => decide (x.id = n)) = true := by
  rw [List.take_succ_eq_append_getElem h, List.filter_append, List.any_append]
  simp only [List.filter_cons, List.filter_nil, List.any_cons, List.any_nil, he]
  simp
theorem filt_yes {n : Int} {l : List ItT} {j : Nat} (h : j < l.length) (he : ¬ l[j].id = n) : ((l.take (j + 1)).filter fun x => decide (x.id ≠ n)) = ((l.take j).filter fun x => decide (x.id ≠ n)) ++ [l[j]] ∧ ((l.take (j + 1)).any fun x => decide (x.id = n)) = ((l.take j).any fun x => decide (x.id = n)) := by
  rw [List.take_succ_eq_append_getElem h, List.filter_append, List.any_append]
  simp only [List.filter_cons, List.filter_nil, List.any_cons, List.any_nil, he]
  simp [he]

theorem rback_ok {fr : Bool} {q : BT} {ys : List AV} (hq : Bc fr q ys) (id : Int) (hw : q.wf) : Fn Try.prog 57 [.agg ys, .c (.int .i64 id)] (ackAV q id) := by
  obtain ⟨la, l⟩ := q
  subst hq
  obtain ⟨hl1, hit⟩ := hw
  have hw : (BT.mk la l).wf := ⟨hl1, hit⟩
  simp only at hl1 hit
  have hlen := hit.len
  refine AC.of_J Try.func57 rfl Try.ntmps57 rfl fun w0 A0 => ?_
  refine J.seq ?_
  refine J.region_lit ?_
  refine JL.box_agg (.tmp rfl) rfl fun b2 => ?_
  refine JL.alloc z90 rfl rfl fun b4 => ?_
  refine JL.q rfl rfl rfl (QW.assign .const) ?_
  refine JL.q rfl rfl rfl (QW.assign .const) ?_
  refine JL.nil ?_
  refine thenQ.n ?_
  refine J.seq ?_
  refine J.block ?_
  refine J.seq ?_
  refine J.region_lit ?_
  refine JL.q rfl rfl rfl (by first | exact QW.load_box 1 ty90 (.tmp rfl) rfl rfl rfl | exact QW.load_box 1 ty90 (.tmp rfl) rfl (take_at (BT.cs_length _ _) rfl) (BT.cs_length _ _)) ?_
  refine JL.q rfl rfl rfl (QW.call gofn64 (.cons (.tmp rfl) .nil) (rbcheck_ok Bc.mk hw)) ?_
  refine JL.q rfl rfl rfl (QW.neq (.tmp rfl) .const) ?_
  refine JL.q rfl rfl rfl (QW.assign (.tmp rfl)) ?_
  refine JL.nil ?_
  refine thenQ.n ?_
  refine J.cond (.tmp rfl) (fun c1 => ?_) (fun c1 => ?_)
  · skip
    simp at c1
    obtain ⟨hno, he9⟩ := BT.err_no c1
    refine J.seq ?_
    refine J.region_lit ?_
    refine JL.q rfl rfl rfl (QW.build (idx := []) pl90 z90 rfl .nil rfl rfl rfl rfl) ?_
    first | refine JL.store_boxF 0 ty90 (.tmp rfl) rfl (.tmp rfl) (by first | rfl | assumption) (rfl) (rfl) rfl ?_ | refine JL.store_boxF 0 ty90 (.tmp rfl) rfl (.tmp rfl) (by first | rfl | assumption) (rfl) (BT.cs_length _ _) rfl ?_ | refine JL.store_boxF 0 ty90 (.tmp rfl) rfl (.tmp rfl) (by first | rfl | assumption) (BT.cs_length _ _) (rfl) rfl ?_ | refine JL.store_boxF 0 ty90 (.tmp rfl) rfl (.tmp rfl) (by first | rfl | assumption) (BT.cs_length _ _) (BT.cs_length _ _) rfl ?_ | refine JL.store_box 0 ty90 (.tmp rfl) rfl (.tmp rfl) (by first | rfl | assumption) rfl rfl rfl rfl ?_ | refine JL.store_box 0 ty90 (.tmp rfl) rfl (.tmp rfl) (by first | rfl | assumption) (BT.cs_length _ _) rfl rfl rfl ?_
    refine JL.q rfl rfl rfl (QW.assign .const) ?_
    refine JL.q rfl rfl rfl (QW.assign .const) ?_
    refine JL.nil ?_
    refine thenQ.n ?_
    refine J.ret ?_
    refine blkQ.r ?_
    refine thenQ.r ?_
    exact ⟨_, selP [.k, .k] _, _, RetEv.three rfl (by first | exact REv.cell 0 ty90 rfl rfl rfl rfl (.aggL (.cons (.refl _) (.cons (.nil true false eIt) .nil))) | exact REv.cell 0 ty90 rfl rfl (take_at (BT.cs_length _ _) rfl) (BT.cs_length _ _) (.aggL (.cons (.refl _) (.cons (.nil true false eIt) .nil)))) (REv.tmp rfl (.refl _)) (REv.tmp rfl (.refl _)), rfl, sel_perm [.k, .k] _, ⟨congrArg Res.ret (ackAV_of (q := ⟨la, l⟩) (id := id) (q' := .nil) (b := false) (f := 9) (by simp [BT.ack, hno])).symm, rfl⟩⟩
  · skip
    simp at c1
    have hok := BT.err_ok.1 c1
    obtain ⟨o1, o2, o3, o4⟩ := BT.ok_inv hok
    simp only at o1 o2 o3 o4
    refine J.seq ?_
    refine J.region_lit ?_
    refine JL.q rfl rfl rfl (QW.move (.tmp rfl)) ?_
    refine JL.q rfl rfl rfl (QW.lss (.tmp rfl) .const) ?_
    refine JL.q rfl rfl rfl (QW.move (.tmp rfl)) ?_
    refine JL.g rfl rfl rfl rfl rfl (fun hg => (QW.move (.tmp rfl))) ?_
    refine JL.g rfl rfl rfl rfl rfl (fun hg => (QW.field_ptr fo90_0 (.tmp rfl) rfl)) ?_
    refine JL.g rfl rfl rfl rfl rfl (fun hg => (QW.load_box1 1 ty3 (.when rfl hg) rfl rfl)) ?_
    refine JL.g rfl rfl rfl rfl rfl (fun hg => (QW.add (.when rfl hg) .const (by first | exact w64n (by first | rfl | omega | (simp; done)) (by omega) | exact w64 (by omega) | rfl))) ?_
    refine JL.g rfl rfl rfl rfl rfl (fun hg => (QW.mul .const (.when rfl hg) (by first | exact w64n (by first | rfl | omega | (simp; done)) (by omega) | exact w64 (by omega) | rfl))) ?_
    refine JL.g rfl rfl rfl rfl rfl (fun hg => (QW.geq (.when rfl hg) (.when rfl hg))) ?_
    refine JL.q rfl rfl rfl (QW.pick_or (.tmp rfl) (.tmp rfl)) ?_
    refine JL.q rfl rfl rfl (QW.assign (.tmp rfl)) ?_
    refine JL.nil ?_
    refine thenQ.n ?_
    refine J.cond (.tmp rfl) (fun c2 => ?_) (fun c2 => ?_)
    · skip
      simp at c2
      refine J.seq ?_
      refine J.region_lit ?_
      refine JL.q rfl rfl rfl (QW.build (idx := []) pl90 z90 rfl .nil rfl rfl rfl rfl) ?_
      first | refine JL.store_boxF 0 ty90 (.tmp rfl) rfl (.tmp rfl) (by first | rfl | assumption) (rfl) (rfl) rfl ?_ | refine JL.store_boxF 0 ty90 (.tmp rfl) rfl (.tmp rfl) (by first | rfl | assumption) (rfl) (BT.cs_length _ _) rfl ?_ | refine JL.store_boxF 0 ty90 (.tmp rfl) rfl (.tmp rfl) (by first | rfl | assumption) (BT.cs_length _ _) (rfl) rfl ?_ | refine JL.store_boxF 0 ty90 (.tmp rfl) rfl (.tmp rfl) (by first | rfl | assumption) (BT.cs_length _ _) (BT.cs_length _ _) rfl ?_ | refine JL.store_box 0 ty90 (.tmp rfl) rfl (.tmp rfl) (by first | rfl | assumption) rfl rfl rfl rfl ?_ | refine JL.store_box 0 ty90 (.tmp rfl) rfl (.tmp rfl) (by first | rfl | assumption) (BT.cs_length _ _) rfl rfl rfl ?_
      refine JL.q rfl rfl rfl (QW.assign .const) ?_
      refine JL.q rfl rfl rfl (QW.assign .const) ?_
      refine JL.nil ?_
      refine thenQ.n ?_
      refine J.ret ?_
      refine blkQ.r ?_
      refine thenQ.r ?_
      exact ⟨_, selP [.k, .k] _, _, RetEv.three rfl (by first | exact REv.cell 0 ty90 rfl rfl rfl rfl (.aggL (.cons (.refl _) (.cons (.nil true false eIt) .nil))) | exact REv.cell 0 ty90 rfl rfl (take_at (BT.cs_length _ _) rfl) (BT.cs_length _ _) (.aggL (.cons (.refl _) (.cons (.nil true false eIt) .nil)))) (REv.tmp rfl (.refl _)) (REv.tmp rfl (.refl _)), rfl, sel_perm [.k, .k] _, ⟨congrArg Res.ret (ackAV_of (q := ⟨la, l⟩) (id := id) (q' := .nil) (b := false) (f := 4) (by unfold BT.ack; rw [if_neg (by simp [hok]), if_pos (by (try simp only); omega)])).symm, rfl⟩⟩
    · skip
      simp at c2
      refine J.skip ?_
      refine blkQ.n ?_
      refine thenQ.n ?_
      refine J.seq ?_
      refine J.region_lit ?_
      refine JL.q rfl rfl rfl (QW.field_ptr fo90_0 (.tmp rfl) rfl) ?_
      refine JL.q rfl rfl rfl (QW.load_box1 1 ty3 (.tmp rfl) rfl rfl) ?_
      refine JL.q rfl rfl rfl (QW.build (idx := [0]) pl90 z90 rfl (.cons (.tmp rfl) .nil) rfl rfl rfl rfl) ?_
      refine JL.alloc z90 rfl rfl fun b7 => ?_
      first | refine JL.store_boxF 0 ty90 (.tmp rfl) rfl (.tmp rfl) (by first | rfl | assumption) (rfl) (rfl) rfl ?_ | refine JL.store_boxF 0 ty90 (.tmp rfl) rfl (.tmp rfl) (by first | rfl | assumption) (rfl) (BT.cs_length _ _) rfl ?_ | refine JL.store_boxF 0 ty90 (.tmp rfl) rfl (.tmp rfl) (by first | rfl | assumption) (BT.cs_length _ _) (rfl) rfl ?_ | refine JL.store_boxF 0 ty90 (.tmp rfl) rfl (.tmp rfl) (by first | rfl | assumption) (BT.cs_length _ _) (BT.cs_length _ _) rfl ?_ | refine JL.store_box 0 ty90 (.tmp rfl) rfl (.tmp rfl) (by first | rfl | assumption) rfl rfl rfl rfl ?_ | refine JL.store_box 0 ty90 (.tmp rfl) rfl (.tmp rfl) (by first | rfl | assumption) (BT.cs_length _ _) rfl rfl rfl ?_
      refine JL.nil ?_
      refine thenQ.n ?_
      refine J.seq ?_
      refine J.region_lit ?_
      refine JL.q rfl rfl rfl (QW.assign .const) ?_
      refine JL.nil ?_
      refine thenQ.n ?_
      refine J.seq ?_
      refine J.seq ?_
      refine J.region_lit ?_
      refine JL.q rfl rfl rfl (QW.assign .const) ?_
      refine JL.nil ?_
      refine thenQ.n ?_
      refine J.block ?_
      refine J.reown (Reown.nilArrE eIt _) ?_
      refine J.loopK (ι := Nat × Value × Bool) [1, 2, 4, 5, 6, 7] (fun ⟨j, v, b⟩ => [(9, .c (.int .i64 (j : Int))), (8, .c (.bool b))]) (fun ⟨j, v, b⟩ oo => List.set (List.set oo 0 (.box b7 [.c (.int .i64 la), .c v])) 3 (.arr v eIt (ItT.css true ((l.take j).filter fun x => decide (x.id ≠ id))))) (fun ⟨j, v, b⟩ => j ≤ l.length ∧ b = (l.take j).any fun x => decide (x.id = id)) (fun ⟨j, v, b⟩ => l.length - j) ⟨0, .slice none 0 0, false⟩ (⟨Nat.zero_le _, rfl⟩) (Wk.re (.cons rfl (.refl _) (.cons rfl (.refl _) (.cons rfl (.refl _) (.cons rfl (.refl _) (.cons rfl (.refl _) (.cons rfl (.refl _) (.cons rfl (.refl _) (.cons rfl (.refl _) .nil)))))))) (Reown.refl _) (fun _ h => by first | exact h | simp [h])) ?_
      intro ⟨j, v, b⟩ ⟨hj, hb⟩
      refine J.conv (by (try simp only [stepsO, List.map_cons, List.map_nil, valO, nthO, curO, mrg, List.reverse_cons, List.reverse_nil, List.nil_append, List.cons_append, List.append_nil, List.getElem?_cons_zero, List.getElem?_cons_succ, Option.map_some, Option.getD_some, List.set_cons_zero, List.set_cons_succ, AV.cellsOf, splice_zero, splice_succ, Nat.zero_add, Nat.reduceAdd]); rfl) ?_
      refine J.seq ?_
      refine J.seq ?_
      refine J.region_lit ?_
      refine JL.q rfl rfl rfl (QW.move (.tmp rfl)) ?_
      refine JL.q rfl rfl rfl (QW.field_ptr fo90_1 (.tmp rfl) rfl) ?_
      refine JL.q rfl rfl rfl (QW.load_box1 2 ty88 (.tmp rfl) rfl rfl) ?_
      refine JL.q rfl rfl rfl (by first | exact QW.len_slE sl88 (.tmp rfl) (ItT.css_length _ _) | exact QW.len_slE sl88 (.tmp rfl) (EvT.css_length _ _) | exact QW.len_sl sl88 (.tmp rfl) | exact QW.len_nil sl88 (.tmp rfl)) ?_
      refine JL.q rfl rfl rfl (QW.lss (.tmp rfl) (.tmp rfl)) ?_
      refine JL.nil ?_
      refine thenQ.n ?_
      refine J.cond (.tmp rfl) (fun c3 => ?_) (fun c3 => ?_)
      · skip
        have hlt : j < l.length := by simpa [ItT.css_length] using c3
        refine J.skip ?_
        refine thenQ.n ?_
        refine J.seq ?_
        refine J.block ?_
        refine J.seq ?_
        refine J.seq ?_
        refine J.region_lit ?_
        refine JL.q rfl rfl rfl (QW.field_ptr fo90_1 (.tmp rfl) rfl) ?_
        refine JL.q rfl rfl rfl (QW.load_box1 2 ty88 (.tmp rfl) rfl rfl) ?_
        refine JL.q rfl rfl rfl (QW.move (.tmp rfl)) ?_
        refine JL.q rfl rfl rfl (QW.index_sl sl88 ty116 rfl (.tmp rfl) (.tmp rfl) (by first | rfl | omega | (simp; done)) (by exact ItT.css_getE _ hlt)) ?_
        refine JL.q rfl rfl rfl (QW.field_ref fo116_0 (.tmp rfl) rfl) ?_
        refine JL.q rfl rfl rfl (QW.load_ref1 ty3 (.tmp rfl) rfl) ?_
        refine JL.q rfl rfl rfl (QW.move (.tmp rfl)) ?_
        refine JL.q rfl rfl rfl (QW.eql (.tmp rfl) (.tmp rfl)) ?_
        refine JL.nil ?_
        refine thenQ.n ?_
        refine J.cond (.tmp rfl) (fun c4 => ?_) (fun c4 => ?_)
        · skip
          simp at c4
          obtain ⟨g1, g2⟩ := filt_no hlt c4
          refine J.seq ?_
          refine J.region_lit ?_
          refine JL.q rfl rfl rfl (QW.assign .const) ?_
          refine JL.nil ?_
          refine thenQ.n ?_
          refine J.exit ?_
          refine thenQ.x ?_
          refine blkQ.hit ?_
          refine thenQ.n ?_
          refine J.region_lit ?_
          refine JL.q rfl rfl rfl (QW.move (.tmp rfl)) ?_
          refine JL.q rfl rfl rfl (QW.add (.tmp rfl) .const (by first | exact w64n (by first | rfl | omega | (simp; done)) (by omega) | exact w64 (by omega) | rfl)) ?_
          refine JL.q rfl rfl rfl (QW.assign (.tmp rfl)) ?_
          refine JL.nil ?_
          refine thenQ.n ?_
          exact ⟨⟨j + 1, v, true⟩, ⟨hlt, g2.symm⟩, by show l.length - (j + 1) < l.length - j; omega, Wk.re (.cons rfl (.refl _) (.cons rfl (.refl _) (.cons rfl (.refl _) (.cons rfl (.refl _) (.cons rfl (.refl _) (.cons rfl (.refl _) (.cons rfl (.refl _) (.cons rfl (.refl _) .nil)))))))) (Reown.ofEq (by show [Own.box b7 [.c (.int .i64 la), .c v], _, _, Own.arr v eIt (ItT.css true ((l.take j).filter fun x => decide (x.id ≠ id)))] = _; rw [← g1]; rfl)) (fun _ h => by first | exact h | simp [h])⟩
        · skip
          simp at c4
          obtain ⟨g1, g2⟩ := filt_yes hlt c4
          refine J.skip ?_
          refine thenQ.n ?_
          refine J.region_tailK 9 mixed (by kernel_rfl) (by kernel_rfl) (by kernel_rfl) rfl ?_
          refine .cons [] rfl rfl rfl (.q rfl (QW.field_ptr fo90_1 (.tmp rfl) rfl)) ?_
          refine .cons [45] rfl rfl rfl (.q rfl (QW.load_box1 0 ty88 (.tmp rfl) rfl rfl)) ?_
          refine .cons [] rfl rfl rfl (.q rfl (QW.field_ptr fo90_1 (.tmp rfl) rfl)) ?_
          refine .cons [47] rfl rfl rfl (.q rfl (QW.load_box1 2 ty88 (.tmp rfl) rfl rfl)) ?_
          refine .cons [] rfl rfl rfl (.q rfl (QW.move (.tmp rfl))) ?_
          refine .cons [48, 49] rfl rfl rfl (.q rfl (QW.index_sl sl88 ty116 rfl (.tmp rfl) (.tmp rfl) (by first | rfl | omega | (simp; done)) (by exact ItT.css_getE _ hlt))) ?_
          refine .cons [50] rfl rfl rfl (.q rfl (by first | exact QW.load_ref ty116 (.tmp rfl) rfl rfl | exact QW.load_ref ty116 (.tmp rfl) (take_at0 (ItT.cs_length _ _) rfl) (ItT.cs_length _ _))) ?_
          refine .cons [51] rfl rfl rfl (.q rfl (QW.call gofn99 (.cons (.tmp rfl) .nil) (rown08_ok Ic.self (hit.2 _ (List.getElem_mem hlt))))) ?_
          refine .cons [52] rfl rfl rfl (.q rfl (QW.buildSlice (idx := [0]) (xs := [ItT.cs true (l[j]'hlt)]) sl88 el116 z116 rfl (.cons (.tmp rfl) .nil) rfl rfl rfl rfl rfl (by exact fill_one (ItT.cs_length _ _)) rfl (all_one (ItT.cs_length _ _)) rfl)) ?_
          refine .nil ?_
          refine JL.append 3 sl88 el116 rfl (.tmp rfl) rfl (srcA_sl sl88 (.tmp rfl)) (by rw [ItT.css_length]; have h1 := List.length_filter_le (fun x => decide (x.id ≠ id)) (l.take j); rw [List.length_take] at h1; simp only [List.length_singleton]; show _ * 104 ≤ _; unfold reach; omega) rfl fun v54 => ?_
          refine JL.q rfl rfl rfl (QW.field_ptr fo90_1 (.tmp rfl) rfl) ?_
          refine JL.isSlice 3 rfl fun hs2 => ?_
          refine JL.store_box 0 ty88 (.tmp rfl) rfl (.tmp rfl) (by first | rfl | assumption) rfl rfl rfl rfl ?_
          refine JL.nil ?_
          refine blkQ.n ?_
          refine thenQ.n ?_
          refine J.region_lit ?_
          refine JL.q rfl rfl rfl (QW.move (.tmp rfl)) ?_
          refine JL.q rfl rfl rfl (QW.add (.tmp rfl) .const (by first | exact w64n (by first | rfl | omega | (simp; done)) (by omega) | exact w64 (by omega) | rfl)) ?_
          refine JL.q rfl rfl rfl (QW.assign (.tmp rfl)) ?_
          refine JL.nil ?_
          refine thenQ.n ?_
          exact ⟨⟨j + 1, v54, b⟩, ⟨hlt, hb.trans g2.symm⟩, by show l.length - (j + 1) < l.length - j; omega, Wk.re (.cons rfl (.refl _) (.cons rfl (.refl _) (.cons rfl (.refl _) (.cons rfl (.refl _) (.cons rfl (.refl _) (.cons rfl (.refl _) (.cons rfl (.refl _) (.cons rfl (.refl _) .nil)))))))) (Reown.ofEq (by show [Own.box b7 [.c (.int .i64 la), .c v54], _, _, Own.arr v54 eIt (ItT.css true ((l.take j).filter fun x => decide (x.id ≠ id)) ++ [ItT.cs true (l[j]'hlt)])] = _; rw [show ItT.css true ((l.take j).filter fun x => decide (x.id ≠ id)) ++ [ItT.cs true (l[j]'hlt)] = ItT.css true ((l.take (j + 1)).filter fun x => decide (x.id ≠ id)) from by rw [g1, ItT.css_append]; rfl]; rfl)) (fun _ h => by first | exact h | simp [h])⟩
      · skip
        have hge : l.length ≤ j := by simpa [ItT.css_length] using c3
        refine J.exit ?_
        refine thenQ.x ?_
        refine thenQ.x ?_
        refine blkQ.hit ?_
        refine thenQ.n ?_
        refine J.seq ?_
        obtain rfl : j = l.length := by omega
        rw [List.take_length] at hb ⊢
        refine J.closeArr 3 rfl (by rw [ItT.css_length]; have h1 := List.length_filter_le (fun x => decide (x.id ≠ id)) l; show _ * 104 ≤ _; unfold reach; omega) rfl (fun _ h => by cases h) ?_
        refine J.region_lit ?_
        refine JL.q rfl rfl rfl (by first | exact QW.load_box 0 ty90 (.tmp rfl) rfl rfl rfl | exact QW.load_box 0 ty90 (.tmp rfl) rfl (take_at (BT.cs_length _ _) rfl) (BT.cs_length _ _)) ?_
        refine JL.q rfl rfl rfl (QW.move (.tmp rfl)) ?_
        first | refine JL.store_boxF 1 ty90 (.tmp rfl) rfl (.tmp rfl) (by first | rfl | assumption) (rfl) (rfl) rfl ?_ | refine JL.store_boxF 1 ty90 (.tmp rfl) rfl (.tmp rfl) (by first | rfl | assumption) (rfl) (BT.cs_length _ _) rfl ?_ | refine JL.store_boxF 1 ty90 (.tmp rfl) rfl (.tmp rfl) (by first | rfl | assumption) (BT.cs_length _ _) (rfl) rfl ?_ | refine JL.store_boxF 1 ty90 (.tmp rfl) rfl (.tmp rfl) (by first | rfl | assumption) (BT.cs_length _ _) (BT.cs_length _ _) rfl ?_ | refine JL.store_box 1 ty90 (.tmp rfl) rfl (.tmp rfl) (by first | rfl | assumption) rfl rfl rfl rfl ?_ | refine JL.store_box 1 ty90 (.tmp rfl) rfl (.tmp rfl) (by first | rfl | assumption) (BT.cs_length _ _) rfl rfl rfl ?_
        refine JL.q rfl rfl rfl (QW.assign (.tmp rfl)) ?_
        refine JL.q rfl rfl rfl (QW.assign .const) ?_
        refine JL.nil ?_
        refine thenQ.n ?_
        refine J.ret ?_
        exact ⟨_, selP [.k, .k, .k] _, _, RetEv.three rfl (by first | exact REv.cell 1 ty90 rfl rfl rfl rfl (.aggL (.cons (.refl _) (.cons (.fact (.head _) (.refl _)) .nil))) | exact REv.cell 1 ty90 rfl rfl (take_at (BT.cs_length _ _) rfl) (BT.cs_length _ _) (.aggL (.cons (.refl _) (.cons (.fact (.head _) (.refl _)) .nil)))) (REv.tmp rfl (.refl _)) (REv.tmp rfl (.refl _)), rfl, sel_perm [.k, .k, .k] _, ⟨congrArg Res.ret (ackAV_of (q := ⟨la, l⟩) (id := id) (q' := ⟨la, l.filter fun x => decide (x.id ≠ id)⟩) (b := b) (f := 0) (by unfold BT.ack; rw [if_neg (by simp [hok]), if_neg (by (try simp only); omega), hb])).symm, rfl⟩⟩

theorem bnew_ok : Fn Try.prog 67 [] BT.nil.av := by
  refine AC.of_J Try.func67 rfl Try.ntmps67 rfl fun w0 A0 => ?_
  refine J.seq ?_
  refine J.region_lit ?_
  refine JL.alloc z92 rfl rfl fun b0 => ?_
  refine JL.nil ?_
  refine thenQ.n ?_
  refine J.seq ?_
  refine J.region_lit ?_
  refine JL.q rfl rfl rfl (QW.build (idx := []) pl92 z92 rfl .nil rfl rfl rfl rfl) ?_
  first | refine JL.store_boxF 0 ty92 (.tmp rfl) rfl (.tmp rfl) (by first | rfl | assumption) (rfl) (rfl) rfl ?_ | refine JL.store_boxF 0 ty92 (.tmp rfl) rfl (.tmp rfl) (by first | rfl | assumption) (rfl) (BT.cs_length _ _) rfl ?_ | refine JL.store_boxF 0 ty92 (.tmp rfl) rfl (.tmp rfl) (by first | rfl | assumption) (BT.cs_length _ _) (rfl) rfl ?_ | refine JL.store_boxF 0 ty92 (.tmp rfl) rfl (.tmp rfl) (by first | rfl | assumption) (BT.cs_length _ _) (BT.cs_length _ _) rfl ?_ | refine JL.store_box 0 ty92 (.tmp rfl) rfl (.tmp rfl) (by first | rfl | assumption) rfl rfl rfl rfl ?_ | refine JL.store_box 0 ty92 (.tmp rfl) rfl (.tmp rfl) (by first | rfl | assumption) (BT.cs_length _ _) rfl rfl rfl ?_
  refine JL.nil ?_
  refine thenQ.n ?_
  refine J.ret ?_
  exact ⟨_, selP [.k] _, _, RetEv.one rfl (by first | exact REv.cell 0 ty92 rfl rfl rfl rfl (.aggL (.cons (.refl _) (.cons (.nil true false eIt) .nil))) | exact REv.cell 0 ty92 rfl rfl (take_at (BT.cs_length _ _) rfl) (BT.cs_length _ _) (.aggL (.cons (.refl _) (.cons (.nil true false eIt) .nil)))), rfl, sel_perm [.k] _, ⟨rfl, rfl⟩⟩

theorem BT.nil_wf : BT.nil.wf := ⟨by decide, ItT.wfs_nil⟩
theorem BT.add_wf1 {q : BT} {seq : Int} {m : List EvT} (hw : q.wf) (hm : EvT.wfs m) : (q.add seq m).1.wf := by
  unfold BT.add
  split
  · exact BT.nil_wf
  · rename_i hok
    obtain ⟨o1, o2, o3, o4⟩ := BT.ok_inv (q := q) (by simpa using hok)
    split
    · exact BT.nil_wf
    · split
      · exact BT.nil_wf
      · split
        · exact BT.nil_wf
        · split
          · exact BT.nil_wf
          · split
            · exact BT.nil_wf
            · obtain ⟨la, l⟩ := q
              exact add_wf hw hm (by simp only at *; omega) o3 (by omega)
theorem BT.ack_wf {q : BT} {id : Int} (hw : q.wf) : (q.ack id).1.wf := by
  unfold BT.ack
  split
  · exact BT.nil_wf
  · split
    · exact BT.nil_wf
    · exact ⟨hw.l1, ⟨Nat.le_trans (Nat.mul_le_mul_right _ (List.length_filter_le _ _)) hw.it.1, fun x hx => hw.it.2 x (List.mem_filter.1 hx).1⟩⟩
theorem BT.next_wf {q : BT} {n : Int} (hw : q.wf) : ItT.wfs (q.next n).1 := by
  unfold BT.next
  split
  · exact ItT.wfs_nil
  · split
    · exact ItT.wfs_nil
    · exact hw.it.take _
def itB (n : Int) (e : EvT) : ItT := ⟨n, e⟩
theorem oadd : addAV BT.nil 3 [evA, evB] = .tup [(BT.mk 3 [itB 96 evA, itB 97 evB]).av, .c (.int .i64 0)] := addAV_of (by decide)
theorem onext : nextAV ⟨3, [itB 96 evA, itB 97 evB]⟩ 9 = .tup [itsAV [itB 96 evA, itB 97 evB], .c (.int .i64 0)] := nextAV_of (by decide)
theorem oack : ackAV ⟨3, [itB 96 evA, itB 97 evB]⟩ 96 = .tup [(BT.mk 3 [itB 97 evB]).av, .c (.bool true), .c (.int .i64 0)] := ackAV_of (by decide)
theorem oit_wf : (BT.mk 3 [itB 96 evA, itB 97 evB]).wf := by
  have := BT.add_wf1 (seq := 3) BT.nil_wf evAB_wf
  rwa [show (BT.nil.add 3 [evA, evB]).1 = BT.mk 3 [itB 96 evA, itB 97 evB] by decide] at this

theorem ev2_le {F : List (Value × AV)} : LeL F [[.c (str [97]), .c (.int .i64 0), .c (.int .u64 0), .c (str []), .c (.slice none 0 0), .c (.slice none 0 0)], [.c (str [98]), .c (.int .i64 0), .c (.int .u64 0), .c (str []), .c (.slice none 0 0), .c (.slice none 0 0)]].flatten (EvT.css true [evA, evB]).flatten :=
  .cons (.refl _) (.cons (.refl _) (.cons (.refl _) (.cons (.refl _) (.cons (.nil true false _) (.cons (.nil true false _) (.cons (.refl _) (.cons (.refl _) (.cons (.refl _) (.cons (.refl _) (.cons (.nil true false _) (.cons (.nil true false _) .nil)))))))))))

theorem alive08_ok : Fn Try.prog 66 [] (.c (.bool true)) := by
  refine AC.of_J Try.func66 rfl Try.ntmps66 rfl fun w0 A0 => ?_
  refine J.seq ?_
  refine J.region_lit ?_
  refine JL.q rfl rfl rfl (QW.assign .const) ?_
  refine JL.nil ?_
  refine thenQ.n ?_
  refine J.seq ?_
  refine J.region_lit ?_
  refine JL.q rfl rfl rfl (QW.call gofn67 .nil (bnew_ok)) ?_
  refine JL.q rfl rfl rfl (QW.build (idx := [0]) pl114 z114 rfl (.cons .const .nil) rfl rfl rfl rfl) ?_
  refine JL.q rfl rfl rfl (QW.build (idx := [0]) pl114 z114 rfl (.cons .const .nil) rfl rfl rfl rfl) ?_
  refine JL.q rfl rfl rfl (QW.buildSlice (idx := [0, 1]) (xs := [[.c (str [97]), .c (.int .i64 0), .c (.int .u64 0), .c (str []), .c (.slice none 0 0), .c (.slice none 0 0)], [.c (str [98]), .c (.int .i64 0), .c (.int .u64 0), .c (str []), .c (.slice none 0 0), .c (.slice none 0 0)]]) sl91 el114 z114 rfl (.cons (.tmp rfl) (.cons (.tmp rfl) .nil)) rfl rfl rfl rfl rfl rfl rfl rfl rfl) ?_
  refine JL.q rfl rfl rfl (QW.call gofn54 (.cons (.tmp rfl) (.cons .const (.cons (Ev.le (.tmp rfl) (.slL (fun h => h) (by rfl) (EvT.css_sz true [evA, evB]) ev2_le)) .nil))) (oadd ▸ badd_ok (fr := true) (fr2 := true) (c2 := false) Bc.self 3 BT.nil_wf evAB_wf)) ?_
  refine JL.q rfl rfl rfl (QW.move (.tmp rfl)) ?_
  refine JL.q rfl rfl rfl (QW.extract (.tmp rfl) rfl) ?_
  refine JL.q rfl rfl rfl (QW.extract (.tmp rfl) rfl) ?_
  refine JL.alloc z92 rfl rfl fun b1 => ?_
  first | refine JL.store_boxF 0 ty92 (.tmp rfl) rfl (.tmp rfl) (by first | rfl | assumption) (rfl) (rfl) rfl ?_ | refine JL.store_boxF 0 ty92 (.tmp rfl) rfl (.tmp rfl) (by first | rfl | assumption) (rfl) (BT.cs_length _ _) rfl ?_ | refine JL.store_boxF 0 ty92 (.tmp rfl) rfl (.tmp rfl) (by first | rfl | assumption) (BT.cs_length _ _) (rfl) rfl ?_ | refine JL.store_boxF 0 ty92 (.tmp rfl) rfl (.tmp rfl) (by first | rfl | assumption) (BT.cs_length _ _) (BT.cs_length _ _) rfl ?_ | refine JL.store_box 0 ty92 (.tmp rfl) rfl (.tmp rfl) (by first | rfl | assumption) rfl rfl rfl rfl ?_ | refine JL.store_box 0 ty92 (.tmp rfl) rfl (.tmp rfl) (by first | rfl | assumption) (BT.cs_length _ _) rfl rfl rfl ?_
  refine JL.q rfl rfl rfl (QW.assign (.tmp rfl)) ?_
  refine JL.nil ?_
  refine thenQ.n ?_
  refine J.seq ?_
  refine J.region_lit ?_
  refine JL.q rfl rfl rfl (by first | exact QW.load_box 0 ty92 (.tmp rfl) rfl rfl rfl | exact QW.load_box 0 ty92 (.tmp rfl) rfl (take_at (BT.cs_length _ _) rfl) (BT.cs_length _ _)) ?_
  refine JL.q rfl rfl rfl (QW.call gofn58 (.cons (.tmp rfl) (.cons .const .nil)) (onext ▸ bnext_ok Bc.self 9 oit_wf)) ?_
  refine JL.q rfl rfl rfl (QW.move (.tmp rfl)) ?_
  refine JL.q rfl rfl rfl (QW.extract (.tmp rfl) rfl) ?_
  refine JL.q rfl rfl rfl (QW.extract (.tmp rfl) rfl) ?_
  refine JL.q rfl rfl rfl (QW.assign (.tmp rfl)) ?_
  refine JL.q rfl rfl rfl (QW.assign (.tmp rfl)) ?_
  refine JL.nil ?_
  refine thenQ.n ?_
  refine J.seq ?_
  refine J.region_lit ?_
  refine JL.q rfl rfl rfl (by first | exact QW.load_box 0 ty92 (.tmp rfl) rfl rfl rfl | exact QW.load_box 0 ty92 (.tmp rfl) rfl (take_at (BT.cs_length _ _) rfl) (BT.cs_length _ _)) ?_
  refine JL.q rfl rfl rfl (QW.call gofn56 (.cons (.tmp rfl) (.cons .const .nil)) (oack ▸ back_ok Bc.self 96 oit_wf)) ?_
  refine JL.q rfl rfl rfl (QW.move (.tmp rfl)) ?_
  refine JL.q rfl rfl rfl (QW.extract (.tmp rfl) rfl) ?_
  refine JL.q rfl rfl rfl (QW.extract (.tmp rfl) rfl) ?_
  refine JL.q rfl rfl rfl (QW.extract (.tmp rfl) rfl) ?_
  first | refine JL.store_boxF 0 ty92 (.tmp rfl) rfl (.tmp rfl) (by first | rfl | assumption) (rfl) (rfl) rfl ?_ | refine JL.store_boxF 0 ty92 (.tmp rfl) rfl (.tmp rfl) (by first | rfl | assumption) (rfl) (BT.cs_length _ _) rfl ?_ | refine JL.store_boxF 0 ty92 (.tmp rfl) rfl (.tmp rfl) (by first | rfl | assumption) (BT.cs_length _ _) (rfl) rfl ?_ | refine JL.store_boxF 0 ty92 (.tmp rfl) rfl (.tmp rfl) (by first | rfl | assumption) (BT.cs_length _ _) (BT.cs_length _ _) rfl ?_ | refine JL.store_box 0 ty92 (.tmp rfl) rfl (.tmp rfl) (by first | rfl | assumption) rfl rfl rfl rfl ?_ | refine JL.store_box 0 ty92 (.tmp rfl) rfl (.tmp rfl) (by first | rfl | assumption) (BT.cs_length _ _) rfl rfl rfl ?_
  refine JL.q rfl rfl rfl (QW.assign (.tmp rfl)) ?_
  refine JL.q rfl rfl rfl (QW.assign (.tmp rfl)) ?_
  refine JL.nil ?_
  refine thenQ.n ?_
  refine J.seq ?_
  refine J.region_lit ?_
  refine JL.q rfl rfl rfl (QW.move (.tmp rfl)) ?_
  refine JL.q rfl rfl rfl (QW.call gofn61 (.cons (.tmp rfl) .nil) (num08_ok _)) ?_
  refine JL.q rfl rfl rfl (QW.move (.tmp rfl)) ?_
  refine JL.q rfl rfl rfl (QW.call gofn61 (.cons (.tmp rfl) .nil) (num08_ok _)) ?_
  refine JL.q rfl rfl rfl (QW.add (.tmp rfl) (.tmp rfl) (by first | exact w64n (by first | rfl | omega | (simp; done)) (by omega) | exact w64 (by omega) | rfl)) ?_
  refine JL.q rfl rfl rfl (QW.move (.tmp rfl)) ?_
  refine JL.q rfl rfl rfl (QW.call gofn61 (.cons (.tmp rfl) .nil) (num08_ok _)) ?_
  refine JL.q rfl rfl rfl (QW.add (.tmp rfl) (.tmp rfl) (by first | exact w64n (by first | rfl | omega | (simp; done)) (by omega) | exact w64 (by omega) | rfl)) ?_
  refine JL.q rfl rfl rfl (QW.eql (.tmp rfl) .const) ?_
  refine JL.q rfl rfl rfl (QW.move (.tmp rfl)) ?_
  refine JL.g rfl rfl rfl rfl rfl (fun hg => (QW.move (.tmp rfl))) ?_
  refine JL.g rfl rfl rfl rfl rfl (fun hg => (by first | exact QW.len_slE sl88 (.when rfl hg) (ItT.css_length _ _) | exact QW.len_slE sl88 (.when rfl hg) (EvT.css_length _ _) | exact QW.len_sl sl88 (.when rfl hg) | exact QW.len_nil sl88 (.when rfl hg))) ?_
  refine JL.g rfl rfl rfl rfl rfl (fun hg => (QW.eql (.when rfl hg) .const)) ?_
  refine JL.q rfl rfl rfl (QW.pick_and (.tmp rfl) (.tmp rfl)) ?_
  refine JL.q rfl rfl rfl (QW.move (.tmp rfl)) ?_
  refine JL.g rfl rfl rfl rfl rfl (fun hg => (QW.move (.tmp rfl))) ?_
  refine JL.g rfl rfl rfl rfl rfl (fun hg => (QW.index_sl sl88 ty116 rfl (.when rfl hg) .const (by first | rfl | omega | (simp; done)) (by rfl))) ?_
  refine JL.g rfl rfl rfl rfl rfl (fun hg => (QW.field_ref fo116_0 (.when rfl hg) rfl)) ?_
  refine JL.g rfl rfl rfl rfl rfl (fun hg => (QW.load_ref1 ty3 (.when rfl hg) rfl)) ?_
  refine JL.g rfl rfl rfl rfl rfl (fun hg => (QW.eql (.when rfl hg) .const)) ?_
  refine JL.q rfl rfl rfl (QW.pick_and (.tmp rfl) (.tmp rfl)) ?_
  refine JL.q rfl rfl rfl (QW.move (.tmp rfl)) ?_
  refine JL.g rfl rfl rfl rfl rfl (fun hg => (QW.move (.tmp rfl))) ?_
  refine JL.g rfl rfl rfl rfl rfl (fun hg => (QW.index_sl sl88 ty116 rfl (.when rfl hg) .const (by first | rfl | omega | (simp; done)) (by rfl))) ?_
  refine JL.g rfl rfl rfl rfl rfl (fun hg => (QW.field_ref fo116_0 (.when rfl hg) rfl)) ?_
  refine JL.g rfl rfl rfl rfl rfl (fun hg => (QW.load_ref1 ty3 (.when rfl hg) rfl)) ?_
  refine JL.g rfl rfl rfl rfl rfl (fun hg => (QW.eql (.when rfl hg) .const)) ?_
  refine JL.q rfl rfl rfl (QW.pick_and (.tmp rfl) (.tmp rfl)) ?_
  refine JL.q rfl rfl rfl (QW.move (.tmp rfl)) ?_
  refine JL.g rfl rfl rfl rfl rfl (fun hg => (QW.move (.tmp rfl))) ?_
  refine JL.q rfl rfl rfl (QW.pick_and (.tmp rfl) (.tmp rfl)) ?_
  refine JL.q rfl rfl rfl (QW.move (.tmp rfl)) ?_
  refine JL.g rfl rfl rfl rfl rfl (fun hg => (QW.field_ptr fo92_1 (.tmp rfl) rfl)) ?_
  refine JL.g rfl rfl rfl rfl rfl (fun hg => (QW.load_box1 0 ty88 (.when rfl hg) rfl rfl)) ?_
  refine JL.g rfl rfl rfl rfl rfl (fun hg => (by first | exact QW.len_slE sl88 (.when rfl hg) (ItT.css_length _ _) | exact QW.len_slE sl88 (.when rfl hg) (EvT.css_length _ _) | exact QW.len_sl sl88 (.when rfl hg) | exact QW.len_nil sl88 (.when rfl hg))) ?_
  refine JL.g rfl rfl rfl rfl rfl (fun hg => (QW.eql (.when rfl hg) .const)) ?_
  refine JL.q rfl rfl rfl (QW.pick_and (.tmp rfl) (.tmp rfl)) ?_
  refine JL.q rfl rfl rfl (QW.assign (.tmp rfl)) ?_
  refine JL.nil ?_
  refine thenQ.n ?_
  refine J.ret ?_
  exact ⟨_, selP [.k] _, _, RetEv.one rfl (REv.tmp rfl (.refl _)), rfl, sel_perm [.k] _, ⟨rfl, rfl⟩⟩

theorem outboxTells_ok {q : BT} {seq id n : Int} {m : List EvT} (hw : q.wf) (hm : EvT.wfs m) : Fn Try.prog 14 [.agg (q.cs false), .c (.int .i64 seq), .sl false false eEv (EvT.css false m), .c (.int .i64 id), .c (.int .i64 n)] (.c (.bool true)) := by
  have haw := BT.add_wf1 (seq := seq) hw hm
  have hkw := BT.ack_wf (id := id) hw
  have hnw := BT.next_wf (n := n) hw
  refine AC.of_J Try.func14 rfl Try.ntmps14 rfl fun w0 A0 => ?_
  refine J.seq ?_
  refine J.region_lit ?_
  refine JL.box_agg (.tmp rfl) rfl fun b5 => ?_
  refine JL.q rfl rfl rfl (QW.assign .const) ?_
  refine JL.nil ?_
  refine thenQ.n ?_
  refine J.seq ?_
  refine J.region_lit ?_
  refine JL.q rfl rfl rfl (by first | exact QW.load_box 0 ty90 (.tmp rfl) rfl rfl rfl | exact QW.load_box 0 ty90 (.tmp rfl) rfl (take_at (BT.cs_length _ _) rfl) (BT.cs_length _ _)) ?_
  refine JL.q rfl rfl rfl (QW.call gofn52 (.cons (.tmp rfl) .nil) (of08_ok (q := q) Bc.self hw)) ?_
  refine JL.q rfl rfl rfl (QW.move (.tmp rfl)) ?_
  refine JL.q rfl rfl rfl (QW.call gofn53 (.cons (.tmp rfl) .nil) (copyEffects_rd hm)) ?_
  refine JL.alloc z92 rfl rfl fun b11 => ?_
  first | refine JL.store_boxF 0 ty92 (.tmp rfl) rfl (.tmp rfl) (by first | rfl | assumption) (rfl) (rfl) rfl ?_ | refine JL.store_boxF 0 ty92 (.tmp rfl) rfl (.tmp rfl) (by first | rfl | assumption) (rfl) (BT.cs_length _ _) rfl ?_ | refine JL.store_boxF 0 ty92 (.tmp rfl) rfl (.tmp rfl) (by first | rfl | assumption) (BT.cs_length _ _) (rfl) rfl ?_ | refine JL.store_boxF 0 ty92 (.tmp rfl) rfl (.tmp rfl) (by first | rfl | assumption) (BT.cs_length _ _) (BT.cs_length _ _) rfl ?_ | refine JL.store_box 0 ty92 (.tmp rfl) rfl (.tmp rfl) (by first | rfl | assumption) rfl rfl rfl rfl ?_ | refine JL.store_box 0 ty92 (.tmp rfl) rfl (.tmp rfl) (by first | rfl | assumption) (BT.cs_length _ _) rfl rfl rfl ?_
  refine JL.q rfl rfl rfl (QW.assign (.tmp rfl)) ?_
  refine JL.nil ?_
  refine thenQ.n ?_
  refine J.seq ?_
  refine J.region_lit ?_
  refine JL.q rfl rfl rfl (by first | exact QW.load_box 0 ty92 (.tmp rfl) rfl rfl rfl | exact QW.load_box 0 ty92 (.tmp rfl) rfl (take_at (BT.cs_length _ _) rfl) (BT.cs_length _ _)) ?_
  refine JL.q rfl rfl rfl (QW.move (.tmp rfl)) ?_
  refine JL.q rfl rfl rfl (QW.move (.tmp rfl)) ?_
  refine JL.q rfl rfl rfl (QW.call gofn54 (.cons (.tmp rfl) (.cons (.tmp rfl) (.cons (.tmp rfl) .nil))) (badd_ok (q := q) (m := m) Bc.self seq hw hm)) ?_
  refine JL.q rfl rfl rfl (QW.move (.tmp rfl)) ?_
  refine JL.q rfl rfl rfl (QW.extract (.tmp rfl) rfl) ?_
  refine JL.q rfl rfl rfl (QW.extract (.tmp rfl) rfl) ?_
  refine JL.alloc z92 rfl rfl fun b13 => ?_
  first | refine JL.store_boxF 0 ty92 (.tmp rfl) rfl (.tmp rfl) (by first | rfl | assumption) (rfl) (rfl) rfl ?_ | refine JL.store_boxF 0 ty92 (.tmp rfl) rfl (.tmp rfl) (by first | rfl | assumption) (rfl) (BT.cs_length _ _) rfl ?_ | refine JL.store_boxF 0 ty92 (.tmp rfl) rfl (.tmp rfl) (by first | rfl | assumption) (BT.cs_length _ _) (rfl) rfl ?_ | refine JL.store_boxF 0 ty92 (.tmp rfl) rfl (.tmp rfl) (by first | rfl | assumption) (BT.cs_length _ _) (BT.cs_length _ _) rfl ?_ | refine JL.store_box 0 ty92 (.tmp rfl) rfl (.tmp rfl) (by first | rfl | assumption) rfl rfl rfl rfl ?_ | refine JL.store_box 0 ty92 (.tmp rfl) rfl (.tmp rfl) (by first | rfl | assumption) (BT.cs_length _ _) rfl rfl rfl ?_
  refine JL.q rfl rfl rfl (QW.assign (.tmp rfl)) ?_
  refine JL.nil ?_
  refine thenQ.n ?_
  refine J.seq ?_
  refine J.region_lit ?_
  refine JL.q rfl rfl rfl (by first | exact QW.load_box 2 ty90 (.tmp rfl) rfl rfl rfl | exact QW.load_box 2 ty90 (.tmp rfl) rfl (take_at (BT.cs_length _ _) rfl) (BT.cs_length _ _)) ?_
  refine JL.q rfl rfl rfl (QW.move (.tmp rfl)) ?_
  refine JL.q rfl rfl rfl (QW.move (.tmp rfl)) ?_
  refine JL.q rfl rfl rfl (QW.call gofn55 (.cons (.tmp rfl) (.cons (.tmp rfl) (.cons (.tmp rfl) .nil))) (rbadd_ok (q := q) (m := m) Bc.self seq hw hm)) ?_
  refine JL.q rfl rfl rfl (QW.move (.tmp rfl)) ?_
  refine JL.q rfl rfl rfl (QW.extract (.tmp rfl) rfl) ?_
  refine JL.q rfl rfl rfl (QW.extract (.tmp rfl) rfl) ?_
  refine JL.alloc z90 rfl rfl fun b15 => ?_
  first | refine JL.store_boxF 0 ty90 (.tmp rfl) rfl (.tmp rfl) (by first | rfl | assumption) (rfl) (rfl) rfl ?_ | refine JL.store_boxF 0 ty90 (.tmp rfl) rfl (.tmp rfl) (by first | rfl | assumption) (rfl) (BT.cs_length _ _) rfl ?_ | refine JL.store_boxF 0 ty90 (.tmp rfl) rfl (.tmp rfl) (by first | rfl | assumption) (BT.cs_length _ _) (rfl) rfl ?_ | refine JL.store_boxF 0 ty90 (.tmp rfl) rfl (.tmp rfl) (by first | rfl | assumption) (BT.cs_length _ _) (BT.cs_length _ _) rfl ?_ | refine JL.store_box 0 ty90 (.tmp rfl) rfl (.tmp rfl) (by first | rfl | assumption) rfl rfl rfl rfl ?_ | refine JL.store_box 0 ty90 (.tmp rfl) rfl (.tmp rfl) (by first | rfl | assumption) (BT.cs_length _ _) rfl rfl rfl ?_
  refine JL.q rfl rfl rfl (QW.assign (.tmp rfl)) ?_
  refine JL.nil ?_
  refine thenQ.n ?_
  refine J.seq ?_
  refine J.region_lit ?_
  refine JL.q rfl rfl rfl (by first | exact QW.load_box 2 ty92 (.tmp rfl) rfl rfl rfl | exact QW.load_box 2 ty92 (.tmp rfl) rfl (take_at (BT.cs_length _ _) rfl) (BT.cs_length _ _)) ?_
  refine JL.q rfl rfl rfl (QW.move (.tmp rfl)) ?_
  refine JL.q rfl rfl rfl (QW.call gofn56 (.cons (.tmp rfl) (.cons (.tmp rfl) .nil)) (back_ok (q := q) Bc.self id hw)) ?_
  refine JL.q rfl rfl rfl (QW.move (.tmp rfl)) ?_
  refine JL.q rfl rfl rfl (QW.extract (.tmp rfl) rfl) ?_
  refine JL.q rfl rfl rfl (QW.extract (.tmp rfl) rfl) ?_
  refine JL.q rfl rfl rfl (QW.extract (.tmp rfl) rfl) ?_
  refine JL.alloc z92 rfl rfl fun b17 => ?_
  first | refine JL.store_boxF 0 ty92 (.tmp rfl) rfl (.tmp rfl) (by first | rfl | assumption) (rfl) (rfl) rfl ?_ | refine JL.store_boxF 0 ty92 (.tmp rfl) rfl (.tmp rfl) (by first | rfl | assumption) (rfl) (BT.cs_length _ _) rfl ?_ | refine JL.store_boxF 0 ty92 (.tmp rfl) rfl (.tmp rfl) (by first | rfl | assumption) (BT.cs_length _ _) (rfl) rfl ?_ | refine JL.store_boxF 0 ty92 (.tmp rfl) rfl (.tmp rfl) (by first | rfl | assumption) (BT.cs_length _ _) (BT.cs_length _ _) rfl ?_ | refine JL.store_box 0 ty92 (.tmp rfl) rfl (.tmp rfl) (by first | rfl | assumption) rfl rfl rfl rfl ?_ | refine JL.store_box 0 ty92 (.tmp rfl) rfl (.tmp rfl) (by first | rfl | assumption) (BT.cs_length _ _) rfl rfl rfl ?_
  refine JL.q rfl rfl rfl (QW.assign (.tmp rfl)) ?_
  refine JL.q rfl rfl rfl (QW.assign (.tmp rfl)) ?_
  refine JL.nil ?_
  refine thenQ.n ?_
  refine J.seq ?_
  refine J.region_lit ?_
  refine JL.q rfl rfl rfl (by first | exact QW.load_box 4 ty90 (.tmp rfl) rfl rfl rfl | exact QW.load_box 4 ty90 (.tmp rfl) rfl (take_at (BT.cs_length _ _) rfl) (BT.cs_length _ _)) ?_
  refine JL.q rfl rfl rfl (QW.move (.tmp rfl)) ?_
  refine JL.q rfl rfl rfl (QW.call gofn57 (.cons (.tmp rfl) (.cons (.tmp rfl) .nil)) (rback_ok (q := q) Bc.self id hw)) ?_
  refine JL.q rfl rfl rfl (QW.move (.tmp rfl)) ?_
  refine JL.q rfl rfl rfl (QW.extract (.tmp rfl) rfl) ?_
  refine JL.q rfl rfl rfl (QW.extract (.tmp rfl) rfl) ?_
  refine JL.q rfl rfl rfl (QW.extract (.tmp rfl) rfl) ?_
  refine JL.alloc z90 rfl rfl fun b20 => ?_
  first | refine JL.store_boxF 0 ty90 (.tmp rfl) rfl (.tmp rfl) (by first | rfl | assumption) (rfl) (rfl) rfl ?_ | refine JL.store_boxF 0 ty90 (.tmp rfl) rfl (.tmp rfl) (by first | rfl | assumption) (rfl) (BT.cs_length _ _) rfl ?_ | refine JL.store_boxF 0 ty90 (.tmp rfl) rfl (.tmp rfl) (by first | rfl | assumption) (BT.cs_length _ _) (rfl) rfl ?_ | refine JL.store_boxF 0 ty90 (.tmp rfl) rfl (.tmp rfl) (by first | rfl | assumption) (BT.cs_length _ _) (BT.cs_length _ _) rfl ?_ | refine JL.store_box 0 ty90 (.tmp rfl) rfl (.tmp rfl) (by first | rfl | assumption) rfl rfl rfl rfl ?_ | refine JL.store_box 0 ty90 (.tmp rfl) rfl (.tmp rfl) (by first | rfl | assumption) (BT.cs_length _ _) rfl rfl rfl ?_
  refine JL.q rfl rfl rfl (QW.assign (.tmp rfl)) ?_
  refine JL.q rfl rfl rfl (QW.assign (.tmp rfl)) ?_
  refine JL.nil ?_
  refine thenQ.n ?_
  refine J.seq ?_
  refine J.region_lit ?_
  refine JL.q rfl rfl rfl (by first | exact QW.load_box 4 ty92 (.tmp rfl) rfl rfl rfl | exact QW.load_box 4 ty92 (.tmp rfl) rfl (take_at (BT.cs_length _ _) rfl) (BT.cs_length _ _)) ?_
  refine JL.q rfl rfl rfl (QW.move (.tmp rfl)) ?_
  refine JL.q rfl rfl rfl (QW.call gofn58 (.cons (.tmp rfl) (.cons (.tmp rfl) .nil)) (bnext_ok (q := q) Bc.self n hw)) ?_
  refine JL.q rfl rfl rfl (QW.move (.tmp rfl)) ?_
  refine JL.q rfl rfl rfl (QW.extract (.tmp rfl) rfl) ?_
  refine JL.q rfl rfl rfl (QW.extract (.tmp rfl) rfl) ?_
  refine JL.q rfl rfl rfl (QW.assign (.tmp rfl)) ?_
  refine JL.q rfl rfl rfl (QW.assign (.tmp rfl)) ?_
  refine JL.nil ?_
  refine thenQ.n ?_
  refine J.seq ?_
  refine J.region_lit ?_
  refine JL.q rfl rfl rfl (by first | exact QW.load_box 5 ty90 (.tmp rfl) rfl rfl rfl | exact QW.load_box 5 ty90 (.tmp rfl) rfl (take_at (BT.cs_length _ _) rfl) (BT.cs_length _ _)) ?_
  refine JL.q rfl rfl rfl (QW.move (.tmp rfl)) ?_
  refine JL.q rfl rfl rfl (QW.call gofn59 (.cons (.tmp rfl) (.cons (.tmp rfl) .nil)) (rbnext_ok (q := q) Bc.self n hw)) ?_
  refine JL.q rfl rfl rfl (QW.move (.tmp rfl)) ?_
  refine JL.q rfl rfl rfl (QW.extract (.tmp rfl) rfl) ?_
  refine JL.q rfl rfl rfl (QW.extract (.tmp rfl) rfl) ?_
  refine JL.q rfl rfl rfl (QW.assign (.tmp rfl)) ?_
  refine JL.q rfl rfl rfl (QW.assign (.tmp rfl)) ?_
  refine JL.nil ?_
  refine thenQ.n ?_
  refine J.seq ?_
  refine J.seq ?_
  refine J.region_lit ?_
  refine JL.q rfl rfl rfl (by first | exact QW.load_box 3 ty92 (.tmp rfl) rfl rfl rfl | exact QW.load_box 3 ty92 (.tmp rfl) rfl (take_at (BT.cs_length _ _) rfl) (BT.cs_length _ _)) ?_
  refine JL.q rfl rfl rfl (by first | exact QW.load_box 2 ty90 (.tmp rfl) rfl rfl rfl | exact QW.load_box 2 ty90 (.tmp rfl) rfl (take_at (BT.cs_length _ _) rfl) (BT.cs_length _ _)) ?_
  refine JL.q rfl rfl rfl (QW.call gofn60 (.cons (.tmp rfl) (.cons (.tmp rfl) .nil)) (by first | exact alike08_ok Bc.self Bc.self haw haw | exact alike08_ok Bc.self Bc.self hkw hkw | exact alike08_ok Bc.self Bc.self hw hw)) ?_
  refine JL.q rfl rfl rfl (QW.neq (.tmp rfl) .const) ?_
  refine JL.q rfl rfl rfl (QW.move (.tmp rfl)) ?_
  refine JL.g rfl rfl rfl rfl rfl (fun hg => (QW.move (.tmp rfl))) ?_
  refine JL.g rfl rfl rfl rfl rfl (fun hg => (QW.call gofn61 (.cons (.when rfl hg) .nil) (num08_ok _))) ?_
  refine JL.g rfl rfl rfl rfl rfl (fun hg => (QW.move (.tmp rfl))) ?_
  refine JL.g rfl rfl rfl rfl rfl (fun hg => (QW.neq (.when rfl hg) (.when rfl hg))) ?_
  refine JL.q rfl rfl rfl (QW.pick_or (.tmp rfl) (.tmp rfl)) ?_
  refine JL.q rfl rfl rfl (QW.move (.tmp rfl)) ?_
  refine JL.g rfl rfl rfl rfl rfl (fun hg => (by first | exact QW.load_box 1 ty92 (.tmp rfl) rfl rfl rfl | exact QW.load_box 1 ty92 (.tmp rfl) rfl (take_at (BT.cs_length _ _) rfl) (BT.cs_length _ _))) ?_
  refine JL.g rfl rfl rfl rfl rfl (fun hg => (by first | exact QW.load_box 0 ty90 (.tmp rfl) rfl rfl rfl | exact QW.load_box 0 ty90 (.tmp rfl) rfl (take_at (BT.cs_length _ _) rfl) (BT.cs_length _ _))) ?_
  refine JL.g rfl rfl rfl rfl rfl (fun hg => (QW.call gofn60 (.cons (.when rfl hg) (.cons (.when rfl hg) .nil)) (by first | exact alike08_ok Bc.self Bc.self haw haw | exact alike08_ok Bc.self Bc.self hkw hkw | exact alike08_ok Bc.self Bc.self hw hw))) ?_
  refine JL.g rfl rfl rfl rfl rfl (fun hg => (QW.neq (.when rfl hg) .const)) ?_
  refine JL.q rfl rfl rfl (QW.pick_or (.tmp rfl) (.tmp rfl)) ?_
  refine JL.q rfl rfl rfl (QW.move (.tmp rfl)) ?_
  refine JL.g rfl rfl rfl rfl rfl (fun hg => (QW.move (.tmp rfl))) ?_
  refine JL.g rfl rfl rfl rfl rfl (fun hg => (QW.move (.tmp rfl))) ?_
  refine JL.g rfl rfl rfl rfl rfl (fun hg => (QW.neq_b bo4 (.when rfl hg) (.when rfl hg))) ?_
  refine JL.q rfl rfl rfl (QW.pick_or (.tmp rfl) (.tmp rfl)) ?_
  refine JL.q rfl rfl rfl (QW.move (.tmp rfl)) ?_
  refine JL.g rfl rfl rfl rfl rfl (fun hg => (QW.move (.tmp rfl))) ?_
  refine JL.g rfl rfl rfl rfl rfl (fun hg => (QW.call gofn61 (.cons (.when rfl hg) .nil) (num08_ok _))) ?_
  refine JL.g rfl rfl rfl rfl rfl (fun hg => (QW.move (.tmp rfl))) ?_
  refine JL.g rfl rfl rfl rfl rfl (fun hg => (QW.neq (.when rfl hg) (.when rfl hg))) ?_
  refine JL.q rfl rfl rfl (QW.pick_or (.tmp rfl) (.tmp rfl)) ?_
  refine JL.q rfl rfl rfl (QW.move (.tmp rfl)) ?_
  refine JL.g rfl rfl rfl rfl rfl (fun hg => (QW.move (.tmp rfl))) ?_
  refine JL.g rfl rfl rfl rfl rfl (fun hg => (QW.move (.tmp rfl))) ?_
  refine JL.g rfl rfl rfl rfl rfl (fun hg => (QW.call gofn62 (.cons (.when rfl hg) (.cons (.when rfl hg) .nil)) (sameItems_ok hnw hnw))) ?_
  refine JL.g rfl rfl rfl rfl rfl (fun hg => (QW.not (.when rfl hg))) ?_
  refine JL.q rfl rfl rfl (QW.pick_or (.tmp rfl) (.tmp rfl)) ?_
  refine JL.q rfl rfl rfl (QW.move (.tmp rfl)) ?_
  refine JL.g rfl rfl rfl rfl rfl (fun hg => (QW.move (.tmp rfl))) ?_
  refine JL.g rfl rfl rfl rfl rfl (fun hg => (QW.call gofn61 (.cons (.when rfl hg) .nil) (num08_ok _))) ?_
  refine JL.g rfl rfl rfl rfl rfl (fun hg => (QW.move (.tmp rfl))) ?_
  refine JL.g rfl rfl rfl rfl rfl (fun hg => (QW.neq (.when rfl hg) (.when rfl hg))) ?_
  refine JL.q rfl rfl rfl (QW.pick_or (.tmp rfl) (.tmp rfl)) ?_
  refine JL.nil ?_
  refine thenQ.n ?_
  refine J.cond (.tmp rfl) (fun c1 => ?_) (fun c1 => ?_)
  · skip
    exact absurd c1 (by simp)
    --closed
  · skip
    refine J.skip ?_
    refine thenQ.n ?_
    refine J.seq ?_
    refine J.region_tailK 15 mixed (by kernel_rfl) (by kernel_rfl) (by kernel_rfl) rfl ?_
    refine .cons [] rfl rfl rfl (.q rfl (by first | exact QW.load_box 4 ty92 (.tmp rfl) rfl rfl rfl | exact QW.load_box 4 ty92 (.tmp rfl) rfl (take_at (BT.cs_length _ _) rfl) (BT.cs_length _ _))) ?_
    refine .cons [110] rfl rfl rfl (.q rfl (QW.call gofn63 (.cons (.tmp rfl) .nil) (bcheck_ok (q := q) Bc.self hw))) ?_
    refine .cons [111] rfl rfl rfl (.q rfl (QW.call gofn61 (.cons (.tmp rfl) .nil) (num08_ok _))) ?_
    refine .cons [] rfl rfl rfl (.q rfl (by first | exact QW.load_box 5 ty90 (.tmp rfl) rfl rfl rfl | exact QW.load_box 5 ty90 (.tmp rfl) rfl (take_at (BT.cs_length _ _) rfl) (BT.cs_length _ _))) ?_
    refine .cons [113] rfl rfl rfl (.q rfl (QW.call gofn64 (.cons (.tmp rfl) .nil) (rbcheck_ok (q := q) Bc.self hw))) ?_
    refine .cons [112, 114] rfl rfl rfl (.q rfl (QW.eql (.tmp rfl) (.tmp rfl))) ?_
    refine .cons [115] rfl rfl rfl (.q rfl (QW.move (.tmp rfl))) ?_
    refine .cons [116] rfl rfl rfl (.g rfl rfl rfl (fun hg => (by first | exact QW.load_box 4 ty92 (.tmp rfl) rfl rfl rfl | exact QW.load_box 4 ty92 (.tmp rfl) rfl (take_at (BT.cs_length _ _) rfl) (BT.cs_length _ _)))) ?_
    refine .cons [116] rfl rfl rfl (.g rfl rfl rfl (fun hg => (by first | exact QW.load_box 5 ty90 (.tmp rfl) rfl rfl rfl | exact QW.load_box 5 ty90 (.tmp rfl) rfl (take_at (BT.cs_length _ _) rfl) (BT.cs_length _ _)))) ?_
    refine .cons [117, 118, 116] rfl rfl rfl (.g rfl rfl rfl (fun hg => (QW.call gofn60 (.cons (.when rfl hg) (.cons (.when rfl hg) .nil)) (by first | exact alike08_ok Bc.self Bc.self haw haw | exact alike08_ok Bc.self Bc.self hkw hkw | exact alike08_ok Bc.self Bc.self hw hw)))) ?_
    refine .cons [119, 116] rfl rfl rfl (.g rfl rfl rfl (fun hg => (QW.eql (.when rfl hg) .const))) ?_
    refine .cons [116, 120] rfl rfl rfl (.q rfl (QW.pick_and (.tmp rfl) (.tmp rfl))) ?_
    refine .cons [121] rfl rfl rfl (.q rfl (QW.move (.tmp rfl))) ?_
    refine .cons [122] rfl rfl rfl (.g rfl rfl rfl (fun hg => (QW.move (.tmp rfl)))) ?_
    refine .cons [122] rfl rfl rfl (.g rfl rfl rfl (fun hg => (QW.move (.tmp rfl)))) ?_
    refine .nil ?_
    refine JL.g rfl rfl rfl rfl rfl (fun hg => (QW.call gofn65 (.cons (.when rfl hg) (.cons (.when rfl hg) .nil)) (sameEffects_ok hm hm))) ?_
    refine JL.q rfl rfl rfl (QW.pick_and (.tmp rfl) (.tmp rfl)) ?_
    refine JL.q rfl rfl rfl (QW.move (.tmp rfl)) ?_
    refine JL.g rfl rfl rfl rfl rfl (fun hg => (QW.call gofn66 .nil (alive08_ok))) ?_
    refine JL.q rfl rfl rfl (QW.pick_and (.tmp rfl) (.tmp rfl)) ?_
    refine JL.q rfl rfl rfl (QW.assign (.tmp rfl)) ?_
    refine JL.nil ?_
    refine thenQ.n ?_
    refine J.ret ?_
    exact ⟨_, selP [.k, .k, .k, .k, .k, .k] _, _, RetEv.one rfl (REv.tmp rfl (.refl _)), rfl, sel_perm [.k, .k, .k, .k, .k, .k] _, ⟨ret_b (by simp), rfl⟩⟩

end Go.Proofs.Ytkiankpmkglhcaa.J

/- Walks: QueueTells, QueueRefuses. -/
namespace Go.Proofs.Ytkiankpmkglhcaa.J
open Go Go.RowKit
set_option linter.unusedVariables false
set_option linter.unusedSimpArgs false
set_option maxRecDepth 10000
set_option maxHeartbeats 4000000

theorem QT.nil_wf : QT.nil.wf := ⟨by decide, by decide, EvT.wfs_nil⟩
theorem QT.push_wf {q : QT} {e : EvT} (hw : q.wf) (he : e.wf) : (q.push e).1.wf := by
  unfold QT.push
  split
  · exact QT.nil_wf
  · rename_i hok
    obtain ⟨o1, o2, o3, o4, o5, -⟩ := QT.ok_inv (q := q) (by simpa using hok)
    split
    · exact QT.nil_wf
    · split
      · exact QT.nil_wf
      · exact ⟨hw.l1, by simp only; omega, hw.ev.snoc he (by omega)⟩
theorem QT.take_wf {q : QT} {n : Int} (hw : q.wf) : (q.take n).1.wf ∧ EvT.wfs (q.take n).2.1 := by
  unfold QT.take
  split
  · exact ⟨QT.nil_wf, EvT.wfs_nil⟩
  · split
    · exact ⟨QT.nil_wf, EvT.wfs_nil⟩
    · exact ⟨⟨hw.l1, hw.l2, hw.ev.drop _⟩, hw.ev.take _⟩

theorem QT.push_no {q : QT} {e : EvT} (hok : q.ok = true) (h : (decide (1 ≤ (e.name.length : Int)) && decide ((e.name.length : Int) ≤ 16) && e.arg.err == 0 && !q.full && decide (q.last < 1099511627776)) = false) : (q.push e).2.2 ≠ 0 ∧ (q.push e).2.1 = 0 ∧ (q.push e).1 = .nil := by
  unfold QT.push
  rw [if_neg (by simp [hok])]
  split
  · rename_i h1; exact ⟨h1, rfl, rfl⟩
  · rename_i h1
    split
    · exact ⟨by decide, rfl, rfl⟩
    · rename_i h2
      exfalso
      have h3 : nameOk e.name = true ∧ e.arg.err = 0 := by unfold evErr at h1; split at h1 <;> simp_all
      have h4 : q.full = false := by unfold QT.full; simp only [hok, Bool.true_and]; simp; omega
      have o := QT.ok_inv hok
      rw [h4, h3.2] at h
      unfold nameOk keyOk at h3
      simp at h3 h
      omega
theorem QT.push_yes {q : QT} {e : EvT} (hok : q.ok = true) (h : (decide (1 ≤ (e.name.length : Int)) && decide ((e.name.length : Int) ≤ 16) && e.arg.err == 0 && !q.full && decide (q.last < 1099511627776)) = true) : q.push e = (⟨q.limit, q.last + 1, q.events ++ [e]⟩, q.last + 1, 0) := by
  simp only [Bool.and_eq_true, decide_eq_true_eq, Bool.not_eq_true', beq_iff_eq] at h
  obtain ⟨⟨⟨⟨h1, h2⟩, h3⟩, h4⟩, h5⟩ := h
  unfold QT.full at h4
  rw [hok] at h4
  simp at h4
  unfold QT.push
  rw [if_neg (by simp [hok]), if_neg, if_neg (by omega)]
  unfold evErr nameOk keyOk
  simp [h3]
  omega

theorem QT.cs_length (fr : Bool) : ∀ q : QT, (q.cs fr).length = 3
  | ⟨_, _, _⟩ => rfl

theorem queueTells_ok {q : QT} {e : EvT} {n : Int} (hw : q.wf) (hwe : e.wf) : Fn Try.prog 12 [.agg (q.cs false), .agg (e.cs false), .c (.int .i64 n)] (.c (.bool true)) := by
  obtain ⟨nm, v⟩ := e
  have hv := hwe.arg
  simp only at hv
  have hpw := QT.push_wf hw hwe
  have htw := (QT.take_wf (n := n) hw).1
  have htl := (QT.take_wf (n := n) hw).2
  refine AC.of_J Try.func12 rfl Try.ntmps12 rfl fun w0 A0 => ?_
  refine J.seq ?_
  refine J.region_lit ?_
  refine JL.box_agg (.tmp rfl) rfl fun b3 => ?_
  refine JL.box_agg (.tmp rfl) rfl fun b4 => ?_
  refine JL.q rfl rfl rfl (QW.assign .const) ?_
  refine JL.nil ?_
  refine thenQ.n ?_
  refine J.seq ?_
  refine J.region_outAK 7 0 (fun _ _ _ _ => False) mixed (by kernel_rfl) (by kernel_rfl) (by kernel_rfl) rfl ?_
  refine OutA.quiet [] rfl rfl rfl (fun qs_ ex_ qv_ ql_ => by
      rcases qs_ with _ | ⟨⟨y0, p0⟩, qs_⟩
      · skip
        exact (.q rfl (by first | exact QW.load_box 1 ty61 (.tmp rfl) rfl rfl rfl | exact QW.load_box 1 ty61 (.tmp rfl) rfl (take_at (QT.cs_length _ _) rfl) (QT.cs_length _ _)))
      exact absurd ql_ (by simp)) ?_
  refine OutA.quiet [27] rfl rfl rfl (fun qs_ ex_ qv_ ql_ => (.q rfl (QW.call gofn45 (.cons (.tmp rfl) .nil) (of18_ok (q := q) Qc.self hw)))) ?_
  refine OutA.quiet [] rfl rfl rfl (fun qs_ ex_ qv_ ql_ => (.q rfl (QW.field_ptr fo70_1 (.tmp rfl) rfl))) ?_
  refine OutA.quiet [29] rfl rfl rfl (fun qs_ ex_ qv_ ql_ => by
      rcases qs_ with _ | ⟨⟨y0, p0⟩, qs_⟩
      · skip
        exact (.q rfl (by first | exact QW.load_box 0 ty26 (.tmp rfl) rfl rfl rfl | exact QW.load_box 0 ty26 (.tmp rfl) rfl (take_at (V.cs_length _ _) rfl) (V.cs_length _ _)))
      exact absurd ql_ (by simp)) ?_
  refine OutA.quiet [30] rfl rfl rfl (fun qs_ ex_ qv_ ql_ => (.q rfl (QW.call gofn20 (.cons (.tmp rfl) .nil) (copyValue_rd (by first | exact Vc.self | exact Vc.mk) (by assumption))))) ?_
  refine OutA.alloc (AllocOp.mk z58 rfl) rfl ?_
  refine OutA.alloc (AllocOp.mk z26 rfl) rfl ?_
  refine .nil fun qs_ bs_ qv_ ql_ => ?_
  obtain rfl : qs_ = [] := List.length_eq_zero_iff.1 ql_
  refine JL.conv (by (try simp only [stepsO, List.map_cons, List.map_nil, valO, nthO, curO, mrg, List.reverse_cons, List.reverse_nil, List.nil_append, List.cons_append, List.append_nil, List.getElem?_cons_zero, List.getElem?_cons_succ, Option.map_some, Option.getD_some, List.set_cons_zero, List.set_cons_succ, AV.cellsOf, splice_zero, splice_succ, Nat.zero_add, Nat.reduceAdd, alE, alO]); rfl) ?_
  first | refine JL.store_boxF 2 ty58 (.tmp rfl) rfl (.tmp rfl) (by first | rfl | assumption) (rfl) (rfl) rfl ?_ | refine JL.store_boxF 2 ty58 (.tmp rfl) rfl (.tmp rfl) (by first | rfl | assumption) (rfl) (QT.cs_length _ _) rfl ?_ | refine JL.store_boxF 2 ty58 (.tmp rfl) rfl (.tmp rfl) (by first | rfl | assumption) (QT.cs_length _ _) (rfl) rfl ?_ | refine JL.store_boxF 2 ty58 (.tmp rfl) rfl (.tmp rfl) (by first | rfl | assumption) (QT.cs_length _ _) (QT.cs_length _ _) rfl ?_ | refine JL.store_box 2 ty58 (.tmp rfl) rfl (.tmp rfl) (by first | rfl | assumption) rfl rfl rfl rfl ?_ | refine JL.store_box 2 ty58 (.tmp rfl) rfl (.tmp rfl) (by first | rfl | assumption) (QT.cs_length _ _) rfl rfl rfl ?_
  first | refine JL.store_boxF 3 ty26 (.tmp rfl) rfl (.tmp rfl) (by first | rfl | assumption) (rfl) (rfl) rfl ?_ | refine JL.store_boxF 3 ty26 (.tmp rfl) rfl (.tmp rfl) (by first | rfl | assumption) (rfl) (V.cs_length _ _) rfl ?_ | refine JL.store_boxF 3 ty26 (.tmp rfl) rfl (.tmp rfl) (by first | rfl | assumption) (V.cs_length _ _) (rfl) rfl ?_ | refine JL.store_boxF 3 ty26 (.tmp rfl) rfl (.tmp rfl) (by first | rfl | assumption) (V.cs_length _ _) (V.cs_length _ _) rfl ?_ | refine JL.store_box 3 ty26 (.tmp rfl) rfl (.tmp rfl) (by first | rfl | assumption) rfl rfl rfl rfl ?_ | refine JL.store_box 3 ty26 (.tmp rfl) rfl (.tmp rfl) (by first | rfl | assumption) (V.cs_length _ _) rfl rfl rfl ?_
  refine JL.nil ?_
  refine thenQ.n ?_
  refine J.seq ?_
  refine J.region_lit ?_
  refine JL.q rfl rfl rfl (by first | exact QW.load_box 2 ty58 (.tmp rfl) rfl rfl rfl | exact QW.load_box 2 ty58 (.tmp rfl) rfl (take_at (QT.cs_length _ _) rfl) (QT.cs_length _ _)) ?_
  refine JL.q rfl rfl rfl (QW.field_ptr fo70_0 (.tmp rfl) rfl) ?_
  refine JL.q rfl rfl rfl (QW.load_box1 0 ty9 (.tmp rfl) rfl rfl) ?_
  refine JL.q rfl rfl rfl (by first | exact QW.load_box 3 ty26 (.tmp rfl) rfl rfl rfl | exact QW.load_box 3 ty26 (.tmp rfl) rfl (take_at (V.cs_length _ _) rfl) (V.cs_length _ _)) ?_
  refine JL.q rfl rfl rfl (QW.build (idx := [0, 1]) pl70 z70 rfl (.cons (.tmp rfl) (.cons (.tmp rfl) .nil)) rfl rfl rfl (by exact fill_ev (V.cs_length _ _))) ?_
  refine JL.q rfl rfl rfl (QW.call gofn42 (.cons (.tmp rfl) (.cons (.tmp rfl) .nil)) (qpush_ok (q := q) (e := ⟨nm, v⟩) Qc.self (by first | exact Ec.mk2 Vc.self | exact Ec.self | exact Ec.mk) hw hwe)) ?_
  refine JL.q rfl rfl rfl (QW.move (.tmp rfl)) ?_
  refine JL.q rfl rfl rfl (QW.extract (.tmp rfl) rfl) ?_
  refine JL.q rfl rfl rfl (QW.extract (.tmp rfl) rfl) ?_
  refine JL.q rfl rfl rfl (QW.extract (.tmp rfl) rfl) ?_
  refine JL.alloc z58 rfl rfl fun b9 => ?_
  first | refine JL.store_boxF 0 ty58 (.tmp rfl) rfl (.tmp rfl) (by first | rfl | assumption) (rfl) (rfl) rfl ?_ | refine JL.store_boxF 0 ty58 (.tmp rfl) rfl (.tmp rfl) (by first | rfl | assumption) (rfl) (QT.cs_length _ _) rfl ?_ | refine JL.store_boxF 0 ty58 (.tmp rfl) rfl (.tmp rfl) (by first | rfl | assumption) (QT.cs_length _ _) (rfl) rfl ?_ | refine JL.store_boxF 0 ty58 (.tmp rfl) rfl (.tmp rfl) (by first | rfl | assumption) (QT.cs_length _ _) (QT.cs_length _ _) rfl ?_ | refine JL.store_box 0 ty58 (.tmp rfl) rfl (.tmp rfl) (by first | rfl | assumption) rfl rfl rfl rfl ?_ | refine JL.store_box 0 ty58 (.tmp rfl) rfl (.tmp rfl) (by first | rfl | assumption) (QT.cs_length _ _) rfl rfl rfl ?_
  refine JL.q rfl rfl rfl (QW.assign (.tmp rfl)) ?_
  refine JL.q rfl rfl rfl (QW.assign (.tmp rfl)) ?_
  refine JL.nil ?_
  refine thenQ.n ?_
  refine J.seq ?_
  refine J.region_lit ?_
  refine JL.q rfl rfl rfl (by first | exact QW.load_box 2 ty61 (.tmp rfl) rfl rfl rfl | exact QW.load_box 2 ty61 (.tmp rfl) rfl (take_at (QT.cs_length _ _) rfl) (QT.cs_length _ _)) ?_
  refine JL.q rfl rfl rfl (by first | exact QW.load_box 1 ty70 (.tmp rfl) rfl rfl rfl | exact QW.load_box 1 ty70 (.tmp rfl) rfl (take_at (EvT.cs_length _ _) rfl) (EvT.cs_length _ _)) ?_
  refine JL.q rfl rfl rfl (QW.call gofn46 (.cons (.tmp rfl) (.cons (.tmp rfl) .nil)) (rqpush_ok (q := q) (e := ⟨nm, v⟩) Qc.self Ec.self hw hwe)) ?_
  refine JL.q rfl rfl rfl (QW.move (.tmp rfl)) ?_
  refine JL.q rfl rfl rfl (QW.extract (.tmp rfl) rfl) ?_
  refine JL.q rfl rfl rfl (QW.extract (.tmp rfl) rfl) ?_
  refine JL.q rfl rfl rfl (QW.extract (.tmp rfl) rfl) ?_
  refine JL.alloc z61 rfl rfl fun b12 => ?_
  first | refine JL.store_boxF 0 ty61 (.tmp rfl) rfl (.tmp rfl) (by first | rfl | assumption) (rfl) (rfl) rfl ?_ | refine JL.store_boxF 0 ty61 (.tmp rfl) rfl (.tmp rfl) (by first | rfl | assumption) (rfl) (QT.cs_length _ _) rfl ?_ | refine JL.store_boxF 0 ty61 (.tmp rfl) rfl (.tmp rfl) (by first | rfl | assumption) (QT.cs_length _ _) (rfl) rfl ?_ | refine JL.store_boxF 0 ty61 (.tmp rfl) rfl (.tmp rfl) (by first | rfl | assumption) (QT.cs_length _ _) (QT.cs_length _ _) rfl ?_ | refine JL.store_box 0 ty61 (.tmp rfl) rfl (.tmp rfl) (by first | rfl | assumption) rfl rfl rfl rfl ?_ | refine JL.store_box 0 ty61 (.tmp rfl) rfl (.tmp rfl) (by first | rfl | assumption) (QT.cs_length _ _) rfl rfl rfl ?_
  refine JL.q rfl rfl rfl (QW.assign (.tmp rfl)) ?_
  refine JL.q rfl rfl rfl (QW.assign (.tmp rfl)) ?_
  refine JL.nil ?_
  refine thenQ.n ?_
  refine J.seq ?_
  refine J.region_lit ?_
  refine JL.q rfl rfl rfl (by first | exact QW.load_box 4 ty58 (.tmp rfl) rfl rfl rfl | exact QW.load_box 4 ty58 (.tmp rfl) rfl (take_at (QT.cs_length _ _) rfl) (QT.cs_length _ _)) ?_
  refine JL.q rfl rfl rfl (QW.move (.tmp rfl)) ?_
  refine JL.q rfl rfl rfl (QW.call gofn43 (.cons (.tmp rfl) (.cons (.tmp rfl) .nil)) (qtake_ok (q := q) Qc.self n hw)) ?_
  refine JL.q rfl rfl rfl (QW.move (.tmp rfl)) ?_
  refine JL.q rfl rfl rfl (QW.extract (.tmp rfl) rfl) ?_
  refine JL.q rfl rfl rfl (QW.extract (.tmp rfl) rfl) ?_
  refine JL.q rfl rfl rfl (QW.extract (.tmp rfl) rfl) ?_
  refine JL.q rfl rfl rfl (QW.extract (.tmp rfl) rfl) ?_
  refine JL.alloc z58 rfl rfl fun b15 => ?_
  first | refine JL.store_boxF 0 ty58 (.tmp rfl) rfl (.tmp rfl) (by first | rfl | assumption) (rfl) (rfl) rfl ?_ | refine JL.store_boxF 0 ty58 (.tmp rfl) rfl (.tmp rfl) (by first | rfl | assumption) (rfl) (QT.cs_length _ _) rfl ?_ | refine JL.store_boxF 0 ty58 (.tmp rfl) rfl (.tmp rfl) (by first | rfl | assumption) (QT.cs_length _ _) (rfl) rfl ?_ | refine JL.store_boxF 0 ty58 (.tmp rfl) rfl (.tmp rfl) (by first | rfl | assumption) (QT.cs_length _ _) (QT.cs_length _ _) rfl ?_ | refine JL.store_box 0 ty58 (.tmp rfl) rfl (.tmp rfl) (by first | rfl | assumption) rfl rfl rfl rfl ?_ | refine JL.store_box 0 ty58 (.tmp rfl) rfl (.tmp rfl) (by first | rfl | assumption) (QT.cs_length _ _) rfl rfl rfl ?_
  refine JL.q rfl rfl rfl (QW.assign (.tmp rfl)) ?_
  refine JL.q rfl rfl rfl (QW.assign (.tmp rfl)) ?_
  refine JL.q rfl rfl rfl (QW.assign (.tmp rfl)) ?_
  refine JL.nil ?_
  refine thenQ.n ?_
  refine J.seq ?_
  refine J.region_lit ?_
  refine JL.q rfl rfl rfl (by first | exact QW.load_box 4 ty61 (.tmp rfl) rfl rfl rfl | exact QW.load_box 4 ty61 (.tmp rfl) rfl (take_at (QT.cs_length _ _) rfl) (QT.cs_length _ _)) ?_
  refine JL.q rfl rfl rfl (QW.move (.tmp rfl)) ?_
  refine JL.q rfl rfl rfl (QW.call gofn47 (.cons (.tmp rfl) (.cons (.tmp rfl) .nil)) (rqtake_ok (q := q) Qc.self n hw)) ?_
  refine JL.q rfl rfl rfl (QW.move (.tmp rfl)) ?_
  refine JL.q rfl rfl rfl (QW.extract (.tmp rfl) rfl) ?_
  refine JL.q rfl rfl rfl (QW.extract (.tmp rfl) rfl) ?_
  refine JL.q rfl rfl rfl (QW.extract (.tmp rfl) rfl) ?_
  refine JL.q rfl rfl rfl (QW.extract (.tmp rfl) rfl) ?_
  refine JL.alloc z61 rfl rfl fun b19 => ?_
  first | refine JL.store_boxF 0 ty61 (.tmp rfl) rfl (.tmp rfl) (by first | rfl | assumption) (rfl) (rfl) rfl ?_ | refine JL.store_boxF 0 ty61 (.tmp rfl) rfl (.tmp rfl) (by first | rfl | assumption) (rfl) (QT.cs_length _ _) rfl ?_ | refine JL.store_boxF 0 ty61 (.tmp rfl) rfl (.tmp rfl) (by first | rfl | assumption) (QT.cs_length _ _) (rfl) rfl ?_ | refine JL.store_boxF 0 ty61 (.tmp rfl) rfl (.tmp rfl) (by first | rfl | assumption) (QT.cs_length _ _) (QT.cs_length _ _) rfl ?_ | refine JL.store_box 0 ty61 (.tmp rfl) rfl (.tmp rfl) (by first | rfl | assumption) rfl rfl rfl rfl ?_ | refine JL.store_box 0 ty61 (.tmp rfl) rfl (.tmp rfl) (by first | rfl | assumption) (QT.cs_length _ _) rfl rfl rfl ?_
  refine JL.q rfl rfl rfl (QW.assign (.tmp rfl)) ?_
  refine JL.q rfl rfl rfl (QW.assign (.tmp rfl)) ?_
  refine JL.q rfl rfl rfl (QW.assign (.tmp rfl)) ?_
  refine JL.nil ?_
  refine thenQ.n ?_
  refine J.seq ?_
  refine J.region_lit ?_
  refine JL.q rfl rfl rfl (by first | exact QW.load_box 6 ty58 (.tmp rfl) rfl rfl rfl | exact QW.load_box 6 ty58 (.tmp rfl) rfl (take_at (QT.cs_length _ _) rfl) (QT.cs_length _ _)) ?_
  refine JL.q rfl rfl rfl (QW.call gofn48 (.cons (.tmp rfl) .nil) (qfull_ok (q := q) Qc.self hw)) ?_
  refine JL.q rfl rfl rfl (QW.move (.tmp rfl)) ?_
  refine JL.q rfl rfl rfl (QW.extract (.tmp rfl) rfl) ?_
  refine JL.q rfl rfl rfl (QW.extract (.tmp rfl) rfl) ?_
  refine JL.q rfl rfl rfl (QW.assign (.tmp rfl)) ?_
  refine JL.q rfl rfl rfl (QW.assign (.tmp rfl)) ?_
  refine JL.nil ?_
  refine thenQ.n ?_
  refine J.seq ?_
  refine J.region_lit ?_
  refine JL.q rfl rfl rfl (by first | exact QW.load_box 5 ty61 (.tmp rfl) rfl rfl rfl | exact QW.load_box 5 ty61 (.tmp rfl) rfl (take_at (QT.cs_length _ _) rfl) (QT.cs_length _ _)) ?_
  refine JL.q rfl rfl rfl (QW.call gofn49 (.cons (.tmp rfl) .nil) (rqfull_ok (q := q) Qc.self hw)) ?_
  refine JL.q rfl rfl rfl (QW.move (.tmp rfl)) ?_
  refine JL.q rfl rfl rfl (QW.extract (.tmp rfl) rfl) ?_
  refine JL.q rfl rfl rfl (QW.extract (.tmp rfl) rfl) ?_
  refine JL.q rfl rfl rfl (QW.assign (.tmp rfl)) ?_
  refine JL.q rfl rfl rfl (QW.assign (.tmp rfl)) ?_
  refine JL.nil ?_
  refine thenQ.n ?_
  refine J.seq ?_
  refine J.seq ?_
  refine J.region_lit ?_
  refine JL.q rfl rfl rfl (by first | exact QW.load_box 3 ty58 (.tmp rfl) rfl rfl rfl | exact QW.load_box 3 ty58 (.tmp rfl) rfl (take_at (QT.cs_length _ _) rfl) (QT.cs_length _ _)) ?_
  refine JL.q rfl rfl rfl (by first | exact QW.load_box 2 ty61 (.tmp rfl) rfl rfl rfl | exact QW.load_box 2 ty61 (.tmp rfl) rfl (take_at (QT.cs_length _ _) rfl) (QT.cs_length _ _)) ?_
  refine JL.q rfl rfl rfl (QW.call gofn39 (.cons (.tmp rfl) (.cons (.tmp rfl) .nil)) (alike18_ok Qc.self Qc.self hpw hpw)) ?_
  refine JL.q rfl rfl rfl (QW.neq (.tmp rfl) .const) ?_
  refine JL.q rfl rfl rfl (QW.move (.tmp rfl)) ?_
  refine JL.g rfl rfl rfl rfl rfl (fun hg => (QW.move (.tmp rfl))) ?_
  refine JL.g rfl rfl rfl rfl rfl (fun hg => (QW.move (.tmp rfl))) ?_
  refine JL.g rfl rfl rfl rfl rfl (fun hg => (QW.neq (.when rfl hg) (.when rfl hg))) ?_
  refine JL.q rfl rfl rfl (QW.pick_or (.tmp rfl) (.tmp rfl)) ?_
  refine JL.q rfl rfl rfl (QW.move (.tmp rfl)) ?_
  refine JL.g rfl rfl rfl rfl rfl (fun hg => (QW.move (.tmp rfl))) ?_
  refine JL.g rfl rfl rfl rfl rfl (fun hg => (QW.call gofn40 (.cons (.when rfl hg) .nil) (num18_ok _))) ?_
  refine JL.g rfl rfl rfl rfl rfl (fun hg => (QW.move (.tmp rfl))) ?_
  refine JL.g rfl rfl rfl rfl rfl (fun hg => (QW.neq (.when rfl hg) (.when rfl hg))) ?_
  refine JL.q rfl rfl rfl (QW.pick_or (.tmp rfl) (.tmp rfl)) ?_
  refine JL.q rfl rfl rfl (QW.move (.tmp rfl)) ?_
  refine JL.g rfl rfl rfl rfl rfl (fun hg => (by first | exact QW.load_box 1 ty58 (.tmp rfl) rfl rfl rfl | exact QW.load_box 1 ty58 (.tmp rfl) rfl (take_at (QT.cs_length _ _) rfl) (QT.cs_length _ _))) ?_
  refine JL.g rfl rfl rfl rfl rfl (fun hg => (by first | exact QW.load_box 0 ty61 (.tmp rfl) rfl rfl rfl | exact QW.load_box 0 ty61 (.tmp rfl) rfl (take_at (QT.cs_length _ _) rfl) (QT.cs_length _ _))) ?_
  refine JL.g rfl rfl rfl rfl rfl (fun hg => (QW.call gofn39 (.cons (.when rfl hg) (.cons (.when rfl hg) .nil)) (alike18_ok Qc.self Qc.self htw htw))) ?_
  refine JL.g rfl rfl rfl rfl rfl (fun hg => (QW.neq (.when rfl hg) .const)) ?_
  refine JL.q rfl rfl rfl (QW.pick_or (.tmp rfl) (.tmp rfl)) ?_
  refine JL.q rfl rfl rfl (QW.move (.tmp rfl)) ?_
  refine JL.g rfl rfl rfl rfl rfl (fun hg => (QW.move (.tmp rfl))) ?_
  refine JL.g rfl rfl rfl rfl rfl (fun hg => (QW.move (.tmp rfl))) ?_
  refine JL.g rfl rfl rfl rfl rfl (fun hg => (QW.call gofn44 (.cons (.when rfl hg) (.cons (.when rfl hg) .nil)) (sameEvents_ok htl htl))) ?_
  refine JL.g rfl rfl rfl rfl rfl (fun hg => (QW.not (.when rfl hg))) ?_
  refine JL.q rfl rfl rfl (QW.pick_or (.tmp rfl) (.tmp rfl)) ?_
  refine JL.q rfl rfl rfl (QW.move (.tmp rfl)) ?_
  refine JL.g rfl rfl rfl rfl rfl (fun hg => (QW.move (.tmp rfl))) ?_
  refine JL.g rfl rfl rfl rfl rfl (fun hg => (QW.move (.tmp rfl))) ?_
  refine JL.g rfl rfl rfl rfl rfl (fun hg => (QW.neq (.when rfl hg) (.when rfl hg))) ?_
  refine JL.q rfl rfl rfl (QW.pick_or (.tmp rfl) (.tmp rfl)) ?_
  refine JL.q rfl rfl rfl (QW.move (.tmp rfl)) ?_
  refine JL.g rfl rfl rfl rfl rfl (fun hg => (QW.move (.tmp rfl))) ?_
  refine JL.g rfl rfl rfl rfl rfl (fun hg => (QW.call gofn40 (.cons (.when rfl hg) .nil) (num18_ok _))) ?_
  refine JL.g rfl rfl rfl rfl rfl (fun hg => (QW.move (.tmp rfl))) ?_
  refine JL.g rfl rfl rfl rfl rfl (fun hg => (QW.neq (.when rfl hg) (.when rfl hg))) ?_
  refine JL.q rfl rfl rfl (QW.pick_or (.tmp rfl) (.tmp rfl)) ?_
  refine JL.q rfl rfl rfl (QW.move (.tmp rfl)) ?_
  refine JL.g rfl rfl rfl rfl rfl (fun hg => (QW.move (.tmp rfl))) ?_
  refine JL.g rfl rfl rfl rfl rfl (fun hg => (QW.move (.tmp rfl))) ?_
  refine JL.g rfl rfl rfl rfl rfl (fun hg => (QW.neq_b bo4 (.when rfl hg) (.when rfl hg))) ?_
  refine JL.q rfl rfl rfl (QW.pick_or (.tmp rfl) (.tmp rfl)) ?_
  refine JL.q rfl rfl rfl (QW.move (.tmp rfl)) ?_
  refine JL.g rfl rfl rfl rfl rfl (fun hg => (QW.move (.tmp rfl))) ?_
  refine JL.g rfl rfl rfl rfl rfl (fun hg => (QW.call gofn40 (.cons (.when rfl hg) .nil) (num18_ok _))) ?_
  refine JL.g rfl rfl rfl rfl rfl (fun hg => (QW.move (.tmp rfl))) ?_
  refine JL.g rfl rfl rfl rfl rfl (fun hg => (QW.neq (.when rfl hg) (.when rfl hg))) ?_
  refine JL.q rfl rfl rfl (QW.pick_or (.tmp rfl) (.tmp rfl)) ?_
  refine JL.nil ?_
  refine thenQ.n ?_
  refine J.cond (.tmp rfl) (fun c1 => ?_) (fun c1 => ?_)
  · skip
    exact absurd c1 (by simp)
    --closed
  · skip
    refine J.skip ?_
    refine thenQ.n ?_
    refine J.seq ?_
    refine J.region_tailK 16 mixed (by kernel_rfl) (by kernel_rfl) (by kernel_rfl) rfl ?_
    refine .cons [] rfl rfl rfl (.q rfl (by first | exact QW.load_box 6 ty58 (.tmp rfl) rfl rfl rfl | exact QW.load_box 6 ty58 (.tmp rfl) rfl (take_at (QT.cs_length _ _) rfl) (QT.cs_length _ _))) ?_
    refine .cons [124] rfl rfl rfl (.q rfl (QW.call gofn50 (.cons (.tmp rfl) .nil) (qcheck_ok (q := q) Qc.self hw))) ?_
    refine .cons [125] rfl rfl rfl (.q rfl (QW.call gofn40 (.cons (.tmp rfl) .nil) (num18_ok _))) ?_
    refine .cons [] rfl rfl rfl (.q rfl (by first | exact QW.load_box 5 ty61 (.tmp rfl) rfl rfl rfl | exact QW.load_box 5 ty61 (.tmp rfl) rfl (take_at (QT.cs_length _ _) rfl) (QT.cs_length _ _))) ?_
    refine .cons [127] rfl rfl rfl (.q rfl (QW.call gofn51 (.cons (.tmp rfl) .nil) (rqcheck_ok (q := q) Qc.self hw))) ?_
    refine .cons [126, 128] rfl rfl rfl (.q rfl (QW.eql (.tmp rfl) (.tmp rfl))) ?_
    refine .cons [129] rfl rfl rfl (.q rfl (QW.move (.tmp rfl))) ?_
    refine .cons [130] rfl rfl rfl (.g rfl rfl rfl (fun hg => (by first | exact QW.load_box 6 ty58 (.tmp rfl) rfl rfl rfl | exact QW.load_box 6 ty58 (.tmp rfl) rfl (take_at (QT.cs_length _ _) rfl) (QT.cs_length _ _)))) ?_
    refine .cons [130] rfl rfl rfl (.g rfl rfl rfl (fun hg => (by first | exact QW.load_box 5 ty61 (.tmp rfl) rfl rfl rfl | exact QW.load_box 5 ty61 (.tmp rfl) rfl (take_at (QT.cs_length _ _) rfl) (QT.cs_length _ _)))) ?_
    refine .cons [131, 132, 130] rfl rfl rfl (.g rfl rfl rfl (fun hg => (QW.call gofn39 (.cons (.when rfl hg) (.cons (.when rfl hg) .nil)) (alike18_ok (by first | exact Qc.self | exact Qc.mk) (by first | exact Qc.self | exact Qc.mk) (by assumption) (by assumption))))) ?_
    refine .cons [133, 130] rfl rfl rfl (.g rfl rfl rfl (fun hg => (QW.eql (.when rfl hg) .const))) ?_
    refine .cons [130, 134] rfl rfl rfl (.q rfl (QW.pick_and (.tmp rfl) (.tmp rfl))) ?_
    refine .cons [135] rfl rfl rfl (.q rfl (QW.move (.tmp rfl))) ?_
    refine .cons [136] rfl rfl rfl (.g rfl rfl rfl (fun hg => (by first | exact QW.load_box 7 ty26 (.tmp rfl) rfl rfl rfl | exact QW.load_box 7 ty26 (.tmp rfl) rfl (take_at (V.cs_length _ _) rfl) (V.cs_length _ _)))) ?_
    refine .cons [136] rfl rfl rfl (.g rfl rfl rfl (fun hg => (QW.field_ptr fo70_1 (.tmp rfl) rfl))) ?_
    refine .cons [138, 136] rfl rfl rfl (.g rfl rfl rfl (fun hg => (by first | exact QW.load_box 4 ty26 (.when rfl hg) rfl rfl rfl | exact QW.load_box 4 ty26 (.when rfl hg) rfl (take_at (V.cs_length _ _) rfl) (V.cs_length _ _)))) ?_
    refine .nil ?_
    refine JL.g rfl rfl rfl rfl rfl (fun hg => (QW.call gofn26 (.cons (.when rfl hg) (.cons (.when rfl hg) .nil)) (sameValue_ok (by first | exact Vc.self | exact Vc.mk) (by first | exact Vc.self | exact Vc.mk) (by assumption) (by assumption)))) ?_
    refine JL.q rfl rfl rfl (QW.pick_and (.tmp rfl) (.tmp rfl)) ?_
    refine JL.q rfl rfl rfl (QW.move (.tmp rfl)) ?_
    refine JL.g rfl rfl rfl rfl rfl (fun hg => (QW.call gofn41 .nil (alive18_ok))) ?_
    refine JL.q rfl rfl rfl (QW.pick_and (.tmp rfl) (.tmp rfl)) ?_
    refine JL.q rfl rfl rfl (QW.assign (.tmp rfl)) ?_
    refine JL.nil ?_
    refine thenQ.n ?_
    refine J.ret ?_
    exact ⟨_, selP [.k, .k, .k, .k, .k, .k, .k, .k] _, _, RetEv.one rfl (REv.tmp rfl (.refl _)), rfl, sel_perm [.k, .k, .k, .k, .k, .k, .k, .k] _, ⟨ret_b (by simp [V.same_refl]), rfl⟩⟩

theorem queueRefuses_ok {q : QT} {e : EvT} (hw : q.wf) (hwe : e.wf) : Fn Try.prog 13 [.agg (q.cs false), .agg (e.cs false)] (.c (.bool true)) := by
  obtain ⟨nm, v⟩ := e
  have hv := hwe.arg
  simp only at hv
  have hpw := QT.push_wf hw hwe
  obtain ⟨lim, la, l⟩ := q
  have hl2 := hw.l2
  simp only at hl2
  refine AC.of_J Try.func13 rfl Try.ntmps13 rfl fun w0 A0 => ?_
  refine J.seq ?_
  refine J.region_lit ?_
  refine JL.box_agg (.tmp rfl) rfl fun b2 => ?_
  refine JL.box_agg (.tmp rfl) rfl fun b3 => ?_
  refine JL.q rfl rfl rfl (QW.assign .const) ?_
  refine JL.nil ?_
  refine thenQ.n ?_
  refine J.seq ?_
  refine J.seq ?_
  refine J.region_lit ?_
  refine JL.q rfl rfl rfl (QW.call gofn41 .nil (alive18_ok)) ?_
  refine JL.q rfl rfl rfl (QW.not (.tmp rfl)) ?_
  refine JL.nil ?_
  refine thenQ.n ?_
  refine J.cond (.tmp rfl) (fun c1 => ?_) (fun c1 => ?_)
  · skip
    exact absurd c1 (by simp)
    --closed
  · skip
    skip
    refine J.skip ?_
    refine thenQ.n ?_
    refine J.seq ?_
    refine J.region_outK 11 2 (fun os_ ow_ x_ o_ => match os_ with | [] => (∃ b_, x_ = .c (.pointer (some ⟨b_, 0, none⟩)) ∧ o_ = ow_ ++ [.box b_ ([.int .i64 0, .int .i64 0, .slice none 0 0].map AV.c)]) | [(x0_, _)] => (∃ b_, x0_ = .c (.pointer (some ⟨b_, 0, none⟩)) ∧ x_ = .c undef ∧ o_ = ow_.set 2 (.box b_ ((QT.push ⟨lim, la, l⟩ ⟨nm, v⟩).1.cs true))) | _ => False) mixed (by kernel_rfl) (by kernel_rfl) (by kernel_rfl) rfl ?_
    refine OutK.quiet [] rfl rfl rfl (fun qs_ qv_ ql_ => by
        rcases qs_ with _ | ⟨⟨y0, p0⟩, qs_⟩
        · skip
          exact (.q rfl (by first | exact QW.load_box 1 ty61 (.tmp rfl) rfl rfl rfl | exact QW.load_box 1 ty61 (.tmp rfl) rfl (take_at (QT.cs_length _ _) rfl) (QT.cs_length _ _)))
        rcases qs_ with _ | ⟨⟨y1, p1⟩, qs_⟩
        · skip
          obtain ⟨hr0, _⟩ := qv_
          obtain ⟨b5, rfl, rfl⟩ := hr0
          exact (.q rfl (by first | exact QW.load_box 1 ty61 (.tmp rfl) rfl rfl rfl | exact QW.load_box 1 ty61 (.tmp rfl) rfl (take_at (QT.cs_length _ _) rfl) (QT.cs_length _ _)))
        rcases qs_ with _ | ⟨⟨y2, p2⟩, qs_⟩
        · skip
          obtain ⟨hr1, hr0, _⟩ := qv_
          obtain ⟨b5, rfl, rfl⟩ := hr0
          obtain ⟨_, ⟨⟩, rfl, rfl⟩ := hr1
          exact (.q rfl (by first | exact QW.load_box 1 ty61 (.tmp rfl) rfl rfl rfl | exact QW.load_box 1 ty61 (.tmp rfl) rfl (take_at (QT.cs_length _ _) rfl) (QT.cs_length _ _)))
        exact absurd ql_ (by simp)) ?_
    refine OutK.quiet [14] rfl rfl rfl (fun qs_ qv_ ql_ => (.q rfl (QW.call gofn45 (.cons (.tmp rfl) .nil) (of18_ok (q := ⟨lim, la, l⟩) Qc.self hw)))) ?_
    refine OutK.quiet [] rfl rfl rfl (fun qs_ qv_ ql_ => by
        rcases qs_ with _ | ⟨⟨y0, p0⟩, qs_⟩
        · skip
          exact (.q rfl (by first | exact QW.load_box 0 ty70 (.tmp rfl) rfl rfl rfl | exact QW.load_box 0 ty70 (.tmp rfl) rfl (take_at (EvT.cs_length _ _) rfl) (EvT.cs_length _ _)))
        rcases qs_ with _ | ⟨⟨y1, p1⟩, qs_⟩
        · skip
          obtain ⟨hr0, _⟩ := qv_
          obtain ⟨b5, rfl, rfl⟩ := hr0
          exact (.q rfl (by first | exact QW.load_box 0 ty70 (.tmp rfl) rfl rfl rfl | exact QW.load_box 0 ty70 (.tmp rfl) rfl (take_at (EvT.cs_length _ _) rfl) (EvT.cs_length _ _)))
        rcases qs_ with _ | ⟨⟨y2, p2⟩, qs_⟩
        · skip
          obtain ⟨hr1, hr0, _⟩ := qv_
          obtain ⟨b5, rfl, rfl⟩ := hr0
          obtain ⟨_, ⟨⟩, rfl, rfl⟩ := hr1
          exact (.q rfl (by first | exact QW.load_box 0 ty70 (.tmp rfl) rfl rfl rfl | exact QW.load_box 0 ty70 (.tmp rfl) rfl (take_at (EvT.cs_length _ _) rfl) (EvT.cs_length _ _)))
        exact absurd ql_ (by simp)) ?_
    refine OutK.quiet [15, 16] rfl rfl rfl (fun qs_ qv_ ql_ => (.q rfl (QW.call gofn42 (.cons (.tmp rfl) (.cons (.tmp rfl) .nil)) (qpush_ok (q := ⟨lim, la, l⟩) (e := ⟨nm, v⟩) Qc.self (by first | exact Ec.mk2 Vc.self | exact Ec.self | exact Ec.mk) hw hwe)))) ?_
    refine OutK.quiet [17] rfl rfl rfl (fun qs_ qv_ ql_ => (.q rfl (QW.move (.tmp rfl)))) ?_
    refine OutK.quiet [13] rfl rfl rfl (fun qs_ qv_ ql_ => (.q rfl (QW.extract (.tmp rfl) rfl))) ?_
    refine OutK.quiet [13] rfl rfl rfl (fun qs_ qv_ ql_ => (.q rfl (QW.extract (.tmp rfl) rfl))) ?_
    refine OutK.quiet [13] rfl rfl rfl (fun qs_ qv_ ql_ => (.q rfl (QW.extract (.tmp rfl) rfl))) ?_
    refine OutK.loud [] rfl rfl rfl rfl rfl (fun qs_ qv_ ql_ => by
        obtain rfl : qs_ = [] := List.length_eq_zero_iff.1 ql_
        exact LStepR.alloc (d := 5) z58 rfl) ?_
    refine OutK.store [5, 18] rfl (fun qs_ ow x o h ql_ => by
        obtain ⟨⟨y0, p0⟩, qs_, rfl⟩ : ∃ p t, qs_ = p :: t := by (cases qs_ with | nil => simp at ql_ | cons p t => exact ⟨p, t, rfl⟩)
        obtain rfl : qs_ = [] := List.length_eq_zero_iff.1 (by simpa using ql_)
        exact h.elim fun _ h => h.2.1) rfl rfl rfl (fun qs_ qv_ ql_ => by
        obtain ⟨⟨y0, p0⟩, qs_, rfl⟩ : ∃ p t, qs_ = p :: t := by (cases qs_ with | nil => simp at ql_ | cons p t => exact ⟨p, t, rfl⟩)
        obtain rfl : qs_ = [] := List.length_eq_zero_iff.1 (by simpa using ql_)
        obtain ⟨hr0, _⟩ := qv_
        obtain ⟨b5, rfl, rfl⟩ := hr0
        exact LStep.toR rfl (by first | exact LStep.store_boxF 2 ty58 (.tmp rfl) rfl (.tmp rfl) (by first | rfl | assumption) (rfl) (rfl) rfl | exact LStep.store_boxF 2 ty58 (.tmp rfl) rfl (.tmp rfl) (by first | rfl | assumption) (rfl) (QT.cs_length _ _) rfl | exact LStep.store_boxF 2 ty58 (.tmp rfl) rfl (.tmp rfl) (by first | rfl | assumption) (QT.cs_length _ _) (rfl) rfl | exact LStep.store_boxF 2 ty58 (.tmp rfl) rfl (.tmp rfl) (by first | rfl | assumption) (QT.cs_length _ _) (QT.cs_length _ _) rfl | exact LStep.store_box 2 ty58 (.tmp rfl) rfl (.tmp rfl) (by first | rfl | assumption) rfl rfl rfl rfl | exact LStep.store_box 2 ty58 (.tmp rfl) rfl (.tmp rfl) (by first | rfl | assumption) (QT.cs_length _ _) rfl rfl rfl) ⟨_, rfl, rfl, rfl⟩) ?_
    refine OutK.quiet [19] rfl rfl rfl (fun qs_ qv_ ql_ => (.q rfl (QW.assign (.tmp rfl)))) ?_
    refine .nil fun qs_ qv_ ql_ => ?_
    obtain ⟨⟨y1, p1⟩, qs_, rfl⟩ : ∃ p t, qs_ = p :: t := by (cases qs_ with | nil => simp at ql_ | cons p t => exact ⟨p, t, rfl⟩)
    simp only [List.length_cons, Nat.add_right_cancel_iff] at ql_
    obtain ⟨⟨y0, p0⟩, qs_, rfl⟩ : ∃ p t, qs_ = p :: t := by (cases qs_ with | nil => simp at ql_ | cons p t => exact ⟨p, t, rfl⟩)
    obtain rfl : qs_ = [] := List.length_eq_zero_iff.1 (by simpa using ql_)
    obtain ⟨hr1, hr0, _⟩ := qv_
    obtain ⟨b5, rfl, rfl⟩ := hr0
    obtain ⟨_, ⟨⟩, rfl, rfl⟩ := hr1
    refine JL.conv (by (try simp only [stepsO, List.map_cons, List.map_nil, valO, nthO, curO, mrg, List.reverse_cons, List.reverse_nil, List.nil_append, List.cons_append, List.append_nil, List.getElem?_cons_zero, List.getElem?_cons_succ, Option.map_some, Option.getD_some, List.set_cons_zero, List.set_cons_succ, AV.cellsOf, splice_zero, splice_succ, Nat.zero_add, Nat.reduceAdd]); rfl) ?_
    refine JL.q rfl rfl rfl (QW.assign (.tmp rfl)) ?_
    refine JL.nil ?_
    refine thenQ.n ?_
    refine J.seq ?_
    refine J.region_lit ?_
    refine JL.q rfl rfl rfl (by first | exact QW.load_box 1 ty61 (.tmp rfl) rfl rfl rfl | exact QW.load_box 1 ty61 (.tmp rfl) rfl (take_at (QT.cs_length _ _) rfl) (QT.cs_length _ _)) ?_
    refine JL.q rfl rfl rfl (QW.call gofn45 (.cons (.tmp rfl) .nil) (of18_ok (q := ⟨lim, la, l⟩) Qc.self hw)) ?_
    refine JL.q rfl rfl rfl (QW.call gofn48 (.cons (.tmp rfl) .nil) (qfull_ok (q := ⟨lim, la, l⟩) Qc.self hw)) ?_
    refine JL.q rfl rfl rfl (QW.move (.tmp rfl)) ?_
    refine JL.q rfl rfl rfl (QW.extract (.tmp rfl) rfl) ?_
    refine JL.q rfl rfl rfl (QW.extract (.tmp rfl) rfl) ?_
    refine JL.q rfl rfl rfl (QW.assign (.tmp rfl)) ?_
    refine JL.q rfl rfl rfl (QW.assign (.tmp rfl)) ?_
    refine JL.nil ?_
    refine thenQ.n ?_
    refine J.seq ?_
    refine J.region_lit ?_
    refine JL.q rfl rfl rfl (QW.field_ptr fo70_0 (.tmp rfl) rfl) ?_
    refine JL.q rfl rfl rfl (QW.load_box1 0 ty9 (.tmp rfl) rfl rfl) ?_
    refine JL.q rfl rfl rfl (QW.len_s st9 (.tmp rfl)) ?_
    refine JL.q rfl rfl rfl (QW.geq (.tmp rfl) .const) ?_
    refine JL.q rfl rfl rfl (QW.move (.tmp rfl)) ?_
    refine JL.g rfl rfl rfl rfl rfl (fun hg => (QW.field_ptr fo70_0 (.tmp rfl) rfl)) ?_
    refine JL.g rfl rfl rfl rfl rfl (fun hg => (QW.load_box1 0 ty9 (.when rfl hg) rfl rfl)) ?_
    refine JL.g rfl rfl rfl rfl rfl (fun hg => (QW.len_s st9 (.when rfl hg))) ?_
    refine JL.g rfl rfl rfl rfl rfl (fun hg => (QW.leq (.when rfl hg) .const)) ?_
    refine JL.q rfl rfl rfl (QW.pick_and (.tmp rfl) (.tmp rfl)) ?_
    refine JL.q rfl rfl rfl (QW.move (.tmp rfl)) ?_
    refine JL.g rfl rfl rfl rfl rfl (fun hg => (QW.field_ptr fo70_1 (.tmp rfl) rfl)) ?_
    refine JL.g rfl rfl rfl rfl rfl (fun hg => (by first | exact QW.load_box 0 ty26 (.when rfl hg) rfl rfl rfl | exact QW.load_box 0 ty26 (.when rfl hg) rfl (take_at (V.cs_length _ _) rfl) (V.cs_length _ _))) ?_
    refine JL.g rfl rfl rfl rfl rfl (fun hg => (QW.call gofn24 (.cons (.when rfl hg) .nil) (check_ok (by first | exact Vc.self | exact Vc.mk) (by assumption)))) ?_
    refine JL.g rfl rfl rfl rfl rfl (fun hg => (QW.call gofn40 (.cons (.when rfl hg) .nil) (num18_ok _))) ?_
    refine JL.g rfl rfl rfl rfl rfl (fun hg => (QW.eql (.when rfl hg) .const)) ?_
    refine JL.q rfl rfl rfl (QW.pick_and (.tmp rfl) (.tmp rfl)) ?_
    refine JL.q rfl rfl rfl (QW.assign (.tmp rfl)) ?_
    refine JL.nil ?_
    refine thenQ.n ?_
    refine J.seq ?_
    refine J.seq ?_
    refine J.region_lit ?_
    refine JL.q rfl rfl rfl (by first | exact QW.load_box 1 ty61 (.tmp rfl) rfl rfl rfl | exact QW.load_box 1 ty61 (.tmp rfl) rfl (take_at (QT.cs_length _ _) rfl) (QT.cs_length _ _)) ?_
    refine JL.q rfl rfl rfl (QW.call gofn51 (.cons (.tmp rfl) .nil) (rqcheck_ok (q := ⟨lim, la, l⟩) Qc.self hw)) ?_
    refine JL.q rfl rfl rfl (QW.neq (.tmp rfl) .const) ?_
    refine JL.nil ?_
    refine thenQ.n ?_
    refine J.cond (.tmp rfl) (fun c2 => ?_) (fun c2 => ?_)
    · skip
      simp at c2
      obtain ⟨hno, he9⟩ := QT.err_no c2
      refine J.seq ?_
      refine J.region_lit ?_
      refine JL.q rfl rfl rfl (QW.move (.tmp rfl)) ?_
      refine JL.q rfl rfl rfl (QW.call gofn40 (.cons (.tmp rfl) .nil) (num18_ok _)) ?_
      refine JL.q rfl rfl rfl (QW.eql (.tmp rfl) .const) ?_
      refine JL.q rfl rfl rfl (QW.move (.tmp rfl)) ?_
      refine JL.g rfl rfl rfl rfl rfl (fun hg => (QW.move (.tmp rfl))) ?_
      refine JL.g rfl rfl rfl rfl rfl (fun hg => (QW.call gofn40 (.cons (.when rfl hg) .nil) (num18_ok _))) ?_
      refine JL.g rfl rfl rfl rfl rfl (fun hg => (QW.eql (.when rfl hg) .const)) ?_
      refine JL.q rfl rfl rfl (QW.pick_and (.tmp rfl) (.tmp rfl)) ?_
      refine JL.q rfl rfl rfl (QW.assign (.tmp rfl)) ?_
      refine JL.nil ?_
      refine thenQ.n ?_
      refine J.ret ?_
      refine thenQ.r ?_
      exact ⟨_, selP [.k, .k, .k] _, _, RetEv.one rfl (REv.tmp rfl (.refl _)), rfl, sel_perm [.k, .k, .k] _, ⟨ret_b (by simp [QT.push, hno, he9]), rfl⟩⟩
    · skip
      simp at c2
      have hok := QT.err_ok.1 c2
      obtain ⟨o1, o2, o3, o4, o5, -⟩ := QT.ok_inv hok
      simp only at o1 o2 o3 o4 o5
      refine J.skip ?_
      refine thenQ.n ?_
      refine J.seq ?_
      refine J.seq ?_
      refine J.region_lit ?_
      refine JL.q rfl rfl rfl (QW.move (.tmp rfl)) ?_
      refine JL.q rfl rfl rfl (QW.move (.tmp rfl)) ?_
      refine JL.g rfl rfl rfl rfl rfl (fun hg => (QW.move (.tmp rfl))) ?_
      refine JL.g rfl rfl rfl rfl rfl (fun hg => (QW.not (.when rfl hg))) ?_
      refine JL.q rfl rfl rfl (QW.pick_and (.tmp rfl) (.tmp rfl)) ?_
      refine JL.q rfl rfl rfl (QW.move (.tmp rfl)) ?_
      refine JL.g rfl rfl rfl rfl rfl (fun hg => (QW.field_ptr fo61_1 (.tmp rfl) rfl)) ?_
      refine JL.g rfl rfl rfl rfl rfl (fun hg => (QW.load_box1 1 ty3 (.when rfl hg) rfl rfl)) ?_
      refine JL.g rfl rfl rfl rfl rfl (fun hg => (QW.lss (.when rfl hg) .const)) ?_
      refine JL.q rfl rfl rfl (QW.pick_and (.tmp rfl) (.tmp rfl)) ?_
      refine JL.nil ?_
      refine thenQ.n ?_
      refine J.cond (.tmp rfl) (fun c3 => ?_) (fun c3 => ?_)
      · skip
        refine J.seq ?_
        refine J.region_lit ?_
        refine JL.q rfl rfl rfl (QW.move (.tmp rfl)) ?_
        refine JL.q rfl rfl rfl (QW.call gofn40 (.cons (.tmp rfl) .nil) (num18_ok _)) ?_
        refine JL.q rfl rfl rfl (QW.eql (.tmp rfl) .const) ?_
        refine JL.q rfl rfl rfl (QW.move (.tmp rfl)) ?_
        refine JL.g rfl rfl rfl rfl rfl (fun hg => (QW.move (.tmp rfl))) ?_
        refine JL.g rfl rfl rfl rfl rfl (fun hg => (QW.field_ptr fo61_1 (.tmp rfl) rfl)) ?_
        refine JL.g rfl rfl rfl rfl rfl (fun hg => (QW.load_box1 1 ty3 (.when rfl hg) rfl rfl)) ?_
        refine JL.g rfl rfl rfl rfl rfl (fun hg => (QW.add (.when rfl hg) .const (by first | exact w64n (by first | rfl | omega | (simp; done)) (by omega) | exact w64 (by omega) | rfl))) ?_
        refine JL.g rfl rfl rfl rfl rfl (fun hg => (QW.eql (.when rfl hg) (.when rfl hg))) ?_
        refine JL.q rfl rfl rfl (QW.pick_and (.tmp rfl) (.tmp rfl)) ?_
        refine JL.q rfl rfl rfl (QW.move (.tmp rfl)) ?_
        refine JL.g rfl rfl rfl rfl rfl (fun hg => (QW.field_ptr fo58_2 (.tmp rfl) rfl)) ?_
        refine JL.g rfl rfl rfl rfl rfl (fun hg => (QW.load_box1 2 ty56 (.when rfl hg) rfl rfl)) ?_
        refine JL.g rfl rfl rfl rfl rfl (fun hg => (by first | exact QW.len_slE sl56 (.when rfl hg) (EvT.css_length _ _) | exact QW.len_sl sl56 (.when rfl hg) | exact QW.len_nil sl56 (.when rfl hg))) ?_
        refine JL.g rfl rfl rfl rfl rfl (fun hg => (QW.field_ptr fo61_2 (.tmp rfl) rfl)) ?_
        refine JL.g rfl rfl rfl rfl rfl (fun hg => (QW.load_box1 1 ty56 (.when rfl hg) rfl rfl)) ?_
        refine JL.g rfl rfl rfl rfl rfl (fun hg => (by first | exact QW.len_slE sl56 (.when rfl hg) (EvT.css_length _ _) | exact QW.len_sl sl56 (.when rfl hg) | exact QW.len_nil sl56 (.when rfl hg))) ?_
        refine JL.g rfl rfl rfl rfl rfl (fun hg => (QW.add (.when rfl hg) .const (by first | exact w64n (by first | rfl | omega | (simp; done)) (by omega) | exact w64 (by omega) | rfl))) ?_
        refine JL.g rfl rfl rfl rfl rfl (fun hg => (QW.eql (.when rfl hg) (.when rfl hg))) ?_
        refine JL.q rfl rfl rfl (QW.pick_and (.tmp rfl) (.tmp rfl)) ?_
        refine JL.q rfl rfl rfl (QW.assign (.tmp rfl)) ?_
        refine JL.nil ?_
        refine thenQ.n ?_
        refine J.ret ?_
        refine thenQ.r ?_
        exact ⟨_, selP [.k, .k, .k] _, _, RetEv.one rfl (REv.tmp rfl (.refl _)), rfl, sel_perm [.k, .k, .k] _, ⟨ret_b (by rw [QT.push_yes hok c3]; simp), rfl⟩⟩
      · skip
        refine J.skip ?_
        refine thenQ.n ?_
        refine J.seq ?_
        refine J.region_lit ?_
        refine JL.q rfl rfl rfl (QW.move (.tmp rfl)) ?_
        refine JL.q rfl rfl rfl (QW.call gofn40 (.cons (.tmp rfl) .nil) (num18_ok _)) ?_
        refine JL.q rfl rfl rfl (QW.neq (.tmp rfl) .const) ?_
        refine JL.q rfl rfl rfl (QW.move (.tmp rfl)) ?_
        refine JL.g rfl rfl rfl rfl rfl (fun hg => (QW.move (.tmp rfl))) ?_
        refine JL.g rfl rfl rfl rfl rfl (fun hg => (QW.eql (.when rfl hg) .const)) ?_
        refine JL.q rfl rfl rfl (QW.pick_and (.tmp rfl) (.tmp rfl)) ?_
        refine JL.q rfl rfl rfl (QW.move (.tmp rfl)) ?_
        refine JL.g rfl rfl rfl rfl rfl (fun hg => (QW.field_ptr fo58_2 (.tmp rfl) rfl)) ?_
        refine JL.g rfl rfl rfl rfl rfl (fun hg => (QW.load_box1 2 ty56 (.when rfl hg) rfl rfl)) ?_
        refine JL.g rfl rfl rfl rfl rfl (fun hg => (by first | exact QW.len_slE sl56 (.when rfl hg) (EvT.css_length _ _) | exact QW.len_sl sl56 (.when rfl hg) | exact QW.len_nil sl56 (.when rfl hg))) ?_
        refine JL.g rfl rfl rfl rfl rfl (fun hg => (QW.eql (.when rfl hg) .const)) ?_
        refine JL.q rfl rfl rfl (QW.pick_and (.tmp rfl) (.tmp rfl)) ?_
        refine JL.q rfl rfl rfl (QW.move (.tmp rfl)) ?_
        refine JL.g rfl rfl rfl rfl rfl (fun hg => (QW.move (.tmp rfl))) ?_
        refine JL.g rfl rfl rfl rfl rfl (fun hg => (QW.call gofn40 (.cons (.when rfl hg) .nil) (num18_ok _))) ?_
        refine JL.g rfl rfl rfl rfl rfl (fun hg => (QW.eql (.when rfl hg) .const)) ?_
        refine JL.q rfl rfl rfl (QW.pick_and (.tmp rfl) (.tmp rfl)) ?_
        refine JL.q rfl rfl rfl (QW.assign (.tmp rfl)) ?_
        refine JL.nil ?_
        refine thenQ.n ?_
        refine J.ret ?_
        exact ⟨_, selP [.k, .k, .k] _, _, RetEv.one rfl (REv.tmp rfl (.refl _)), rfl, sel_perm [.k, .k, .k] _, ⟨ret_b (by obtain ⟨g1, g2, g3⟩ := QT.push_no hok c3; rw [c2]; generalize QT.push _ _ = r at g1 g2 g3 ⊢; obtain ⟨q2, n2, f2⟩ := r; simp only at g1 g2 g3; subst g2 g3; simp [QT.nil, g1]), rfl⟩⟩

end Go.Proofs.Ytkiankpmkglhcaa.J
