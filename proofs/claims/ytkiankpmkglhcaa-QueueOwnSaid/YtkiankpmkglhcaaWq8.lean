/- Walks: QueueOrder. -/
import Derived.Test.YtkiankpmkglhcaaWq7
namespace Go.Proofs.Ytkiankpmkglhcaa.J
open Go Go.RowKit
set_option linter.unusedVariables false
set_option linter.unusedSimpArgs false
set_option maxRecDepth 10000
set_option maxHeartbeats 4000000

def eI64 : ETy := ⟨1, 8⟩
def intsAV (l : List Int) : List (List AV) := l.map fun n => [.c (.int .i64 n)]
theorem intsAV_length (l : List Int) : (intsAV l).length = l.length := by simp [intsAV]
theorem intsAV_getE {l : List Int} {i : Nat} (h : i < l.length) : (intsAV l)[i]? = some [.c (.int .i64 l[i])] := by simp [intsAV, h]
theorem Reown.mask (ms : List Cd) (own : List Own) {own' : List Own} (h : selP ms own = own') : Reown own own' := by
  subst h
  exact (Reown.perm ((sel_perm ms own).trans List.perm_append_comm)).trans (Reown.drop _ _)
theorem tmod_b (n : Int) (k : Nat) (hk : 0 < k) : -(k : Int) < n.tmod k ∧ n.tmod k < k := by
  have h1 := Nat.mod_lt n.natAbs hk
  cases n with
  | ofNat m =>
    have : Int.tmod (Int.ofNat m) (k : Int) = ((m % k : Nat) : Int) := rfl
    rw [this]
    have := Nat.mod_lt m hk
    omega
  | negSucc m =>
    have : Int.tmod (Int.negSucc m) (k : Int) = -(((m + 1) % k : Nat) : Int) := rfl
    rw [this]
    have := Nat.mod_lt (m + 1) hk
    omega
theorem tmod_nn {n : Int} (k : Nat) (h : 0 ≤ n) : 0 ≤ n.tmod k := by
  obtain ⟨m, rfl⟩ := Int.eq_ofNat_of_zero_le h
  exact Int.natCast_nonneg (m % k)
/-- What waits behind k of the events I that were pushed. -/
def QT.at (lim : Int) (I : List EvT) (k : Nat) : QT := ⟨lim, (I.length : Int), I.drop k⟩
mutual
theorem V.chk_rng : ∀ (v : V) (lev n : Int), (v.chk lev n).1 = 0 ∨ (v.chk lev n).1 = 3 ∨ (v.chk lev n).1 = 9 ∨ (v.chk lev n).1 = 10
  | .mk k b t ks is, lev, n => by
    unfold V.chk
    split
    · simp
    · split
      · simp
      · split
        · simp
        · exact V.chks_rng is lev (n + 1)
theorem V.chks_rng : ∀ (l : List V) (lev n : Int), (V.chks l lev n).1 = 0 ∨ (V.chks l lev n).1 = 3 ∨ (V.chks l lev n).1 = 9 ∨ (V.chks l lev n).1 = 10
  | [], lev, n => by simp [V.chks]
  | x :: r, lev, n => by
    unfold V.chks
    split
    · exact V.chk_rng x _ _
    · exact V.chks_rng r _ _
end
theorem V.err_rng (v : V) : v.err = 0 ∨ v.err = 3 ∨ v.err = 9 ∨ v.err = 10 := V.chk_rng v 1 0
theorem evErr_rng (e : EvT) : evErr e = 0 ∨ evErr e = 3 ∨ evErr e = 9 ∨ evErr e = 10 ∨ evErr e = 31 := by
  unfold evErr
  split
  · have := V.err_rng e.arg; omega
  · simp
structure QAt (lim : Int) (I : List EvT) (k n : Nat) : Prop where
  hk : k ≤ I.length
  hn : I.length ≤ n
  ok : (QT.at lim I k).ok = true
  wf : EvT.wfs I
theorem QAt.qwf {lim : Int} {I : List EvT} {k n : Nat} (h : QAt lim I k n) : (QT.at lim I k).wf := by
  obtain ⟨h1, h2, h3, h4, h5, _⟩ := QT.ok_inv h.ok
  exact ⟨by omega, by omega, h.wf.drop _⟩
theorem QAt.start {lim : Int} (h : 1 ≤ lim ∧ lim ≤ 9) : QAt lim [] 0 0 := ⟨by simp, by simp, by unfold QT.at QT.ok; simp; omega, EvT.wfs_nil⟩
theorem qnew_at {lim : Int} (h : 1 ≤ lim ∧ lim ≤ 9) : Fn Try.prog 37 [.c (.int .i64 lim)] (.tup [(QT.at lim [] 0).av, .c (.int .i64 0)]) := by
  have := qnew (n := lim)
  rwa [show QT.new lim = QT.at lim [] 0 by unfold QT.new QT.at; rw [if_neg (by omega)]; rfl, show newErr lim = 0 by unfold newErr; rw [if_neg (by omega)]] at this
theorem QAt.push {lim : Int} {I : List EvT} {k n : Nat} {e : EvT} (h : QAt lim I k n) (he : e.wf) (hn : n < 40) : ∃ q m f, (QT.at lim I k).push e = (q, m, f) ∧ (f = 0 → q = QT.at lim (I ++ [e]) k ∧ m = (I.length : Int) + 1 ∧ QAt lim (I ++ [e]) k (n + 1)) ∧ (f = 51 → (I.length : Int) - k = lim) := by
  obtain ⟨h1, h2, h3, h4, h5, h6⟩ := QT.ok_inv h.ok
  have hh := h.hk
  have hh2 := h.hn
  have hok := h.ok
  simp only [QT.at, List.length_drop] at h1 h2 h3 h4 h5 h6
  by_cases he0 : evErr e = 0
  · by_cases hfl : ((QT.at lim I k).events.length : Int) = (QT.at lim I k).limit ∨ (QT.at lim I k).last = 1099511627776
    · refine ⟨.nil, 0, 51, by unfold QT.push; rw [if_neg (by simp [hok]), if_neg (by simp [he0]), if_pos hfl], (fun hf => absurd hf (by decide)), fun _ => ?_⟩
      simp only [QT.at, List.length_drop] at hfl
      omega
    · have hq : (⟨(QT.at lim I k).limit, (QT.at lim I k).last + 1, (QT.at lim I k).events ++ [e]⟩ : QT) = QT.at lim (I ++ [e]) k := by
        unfold QT.at
        rw [List.drop_append_of_le_length hh]
        simp
      refine ⟨⟨(QT.at lim I k).limit, (QT.at lim I k).last + 1, (QT.at lim I k).events ++ [e]⟩, (QT.at lim I k).last + 1, 0, by unfold QT.push; rw [if_neg (by simp [hok]), if_neg (by simp [he0]), if_neg hfl], (fun _ => ⟨hq, rfl, ⟨by simp; omega, by simp; omega, ?_, h.wf.snoc he (by omega)⟩⟩), fun hf => absurd hf (by decide)⟩
      rw [← hq]
      simp only [QT.at, List.length_drop] at hfl
      unfold QT.ok QT.at
      simp only [List.length_append, List.length_drop, List.length_singleton, List.all_append, h6, List.all_cons, List.all_nil, Bool.and_true, Bool.true_and, evOk_iff, Bool.and_eq_true, decide_eq_true_eq]
      refine ⟨⟨⟨⟨⟨h1, h2⟩, ?_⟩, ?_⟩, ?_⟩, by rw [he0]; rfl⟩
      · push_cast; omega
      · push_cast; omega
      · omega
  · refine ⟨.nil, 0, evErr e, by unfold QT.push; rw [if_neg (by simp [hok]), if_pos he0], (fun hf => absurd hf he0), fun hf => ?_⟩
    have := evErr_rng e
    omega
theorem QAt.take {lim : Int} {I : List EvT} {k n : Nat} (h : QAt lim I k n) (c : Int) (hc : 0 ≤ c) : ∃ m : Nat, (m : Int) = min c ((I.length : Int) - k) ∧ (QT.at lim I k).take c = (QT.at lim I (k + m), (I.drop k).take m, (if 0 < m then (k : Int) + 1 else 0), 0) ∧ QAt lim I (k + m) n := by
  obtain ⟨h1, h2, h3, h4, h5, h6⟩ := QT.ok_inv h.ok
  have hh := h.hk
  have hh2 := h.hn
  have hcut : (QT.cut (QT.at lim I k) c : Int) = min c ((I.length : Int) - k) := by unfold QT.cut QT.at; simp only [List.length_drop]; omega
  refine ⟨QT.cut (QT.at lim I k) c, hcut, ?_, ?_⟩
  · generalize hm : QT.cut (QT.at lim I k) c = m at *
    unfold QT.take
    rw [if_neg (by simp [h.ok]), if_neg (by omega), hm]
    unfold QT.at
    simp only [List.drop_drop, List.length_drop, Prod.mk.injEq, true_and, and_true]
    split
    · omega
    · rfl
  · generalize hm : QT.cut (QT.at lim I k) c = m at *
    simp only [QT.at, List.length_drop] at h1 h2 h3 h4 h5 h6
    refine ⟨by omega, hh2, ?_, h.wf⟩
    unfold QT.ok QT.at
    simp only [List.length_drop, Bool.and_eq_true, decide_eq_true_eq]
    refine ⟨⟨⟨⟨⟨h1, h2⟩, by omega⟩, by omega⟩, by omega⟩, ?_⟩
    rw [List.all_eq_true] at h6 ⊢
    intro x hx
    rw [← List.drop_drop] at hx
    exact h6 x (List.mem_of_mem_drop hx)
theorem takeAt {lim : Int} {I : List EvT} {k m n : Nat} {c : Int} (h : QAt lim I k n) (g : (QT.at lim I k).take c = (QT.at lim I (k + m), (I.drop k).take m, (if 0 < m then (k : Int) + 1 else 0), 0)) :
    Fn Try.prog 43 [.agg ((QT.at lim I k).cs true), .c (.int .i64 c)] (.tup [(QT.at lim I (k + m)).av, evsAV ((I.drop k).take m), .c (.int .i64 (if 0 < m then (k : Int) + 1 else 0)), .c (.int .i64 0)]) := by
  have := qtake_ok (fr := true) (q := QT.at lim I k) Qc.self c h.qwf
  rwa [takeAV_of g] at this
theorem pushAt {lim : Int} {I : List EvT} {k n : Nat} {e : EvT} {q : QT} {m f : Int} (h : QAt lim I k n) (he : e.wf) (g : (QT.at lim I k).push e = (q, m, f)) :
    Fn Try.prog 42 [.agg ((QT.at lim I k).cs true), .agg (e.cs false)] (.tup [q.av, .c (.int .i64 m), .c (.int .i64 f)]) := by
  have := qpush_ok (fr := true) (fr2 := false) (q := QT.at lim I k) (e := e) Qc.self Ec.self h.qwf he
  rwa [pushAV_of g] at this

theorem queueOrder_ok {n : Int} {es : List EvT} {ts : List Int} (hn : -9223372036854775808 ≤ n ∧ n ≤ 9223372036854775807) (hev : EvT.wfs es) (hts : ts.length * 8 ≤ reach) (htr : ∀ t ∈ ts, -9223372036854775808 ≤ t ∧ t ≤ 9223372036854775807) : Fn Try.prog 10 [.c (.int .i64 n), .sl false false eEv (EvT.css false es), .sl false false eI64 (intsAV ts)] (.c (.bool true)) := by
  have hel := hev.len
  have htl : ts.length ≤ 17592186044416 := by unfold reach at hts; omega
  have t1 := tmod_b n 9 (by decide)
  have t2 := tmod_nn (n := n.tmod 9 + 9) 9 (by simp only [Int.cast_ofNat_Int] at t1; omega)
  have t3 := tmod_b (n.tmod 9 + 9) 9 (by decide)
  simp only [Int.cast_ofNat_Int] at t1 t2 t3
  refine AC.of_J Try.func10 rfl Try.ntmps10 rfl fun w0 A0 => ?_
  refine J.seq ?_
  refine J.region_lit ?_
  refine JL.q rfl rfl rfl (QW.assign .const) ?_
  refine JL.nil ?_
  refine thenQ.n ?_
  refine J.seq ?_
  refine J.seq ?_
  refine J.region_lit ?_
  refine JL.q rfl rfl rfl (QW.call gofn41 .nil (alive18_ok)) ?_
  refine JL.q rfl rfl rfl (QW.not (.tmp rfl)) ?_
  refine JL.nil ?_
  refine thenQ.n ?_
  refine J.cond (.tmp rfl) (fun c1 => ?_) (fun c1 => ?_)
  · skip
    exact absurd c1 (by simp)
    --closed
  · skip
    skip
    refine J.skip ?_
    refine thenQ.n ?_
    refine J.seq ?_
    refine J.region_lit ?_
    refine JL.q rfl rfl rfl (QW.move (.tmp rfl)) ?_
    refine JL.q rfl rfl rfl (QW.rem (.tmp rfl) .const (by first | decide | omega) rfl) ?_
    refine JL.q rfl rfl rfl (QW.add (.tmp rfl) .const (by first | exact w64n (by first | rfl | omega | (simp; done)) (by omega) | exact w64 (by omega) | exact w64 (by simp only [EvT.css_length, List.length_take, List.length_append]; omega) | rfl)) ?_
    refine JL.q rfl rfl rfl (QW.rem (.tmp rfl) .const (by first | decide | omega) rfl) ?_
    refine JL.q rfl rfl rfl (QW.add .const (.tmp rfl) (by first | exact w64n (by first | rfl | omega | (simp; done)) (by omega) | exact w64 (by omega) | exact w64 (by simp only [EvT.css_length, List.length_take, List.length_append]; omega) | rfl)) ?_
    refine JL.q rfl rfl rfl (QW.assign (.tmp rfl)) ?_
    refine JL.nil ?_
    refine thenQ.n ?_
    refine J.seq ?_
    generalize hlm : 1 + ((n.tmod 9 + 9).tmod 9) = lim
    have hlm1 : 1 ≤ lim ∧ lim ≤ 9 := by omega
    refine J.region_lit ?_
    refine JL.q rfl rfl rfl (QW.move (.tmp rfl)) ?_
    refine JL.q rfl rfl rfl (QW.call gofn37 (.cons (.tmp rfl) .nil) (qnew_at hlm1)) ?_
    refine JL.q rfl rfl rfl (QW.move (.tmp rfl)) ?_
    refine JL.q rfl rfl rfl (QW.extract (.tmp rfl) rfl) ?_
    refine JL.q rfl rfl rfl (QW.extract (.tmp rfl) rfl) ?_
    refine JL.alloc z58 rfl rfl fun b7 => ?_
    first | refine JL.store_boxF 0 ty58 (.tmp rfl) rfl (.tmp rfl) (by first | rfl | assumption) (rfl) (rfl) rfl ?_ | refine JL.store_boxF 0 ty58 (.tmp rfl) rfl (.tmp rfl) (by first | rfl | assumption) (rfl) (QT.cs_length _ _) rfl ?_ | refine JL.store_boxF 0 ty58 (.tmp rfl) rfl (.tmp rfl) (by first | rfl | assumption) (QT.cs_length _ _) (rfl) rfl ?_ | refine JL.store_boxF 0 ty58 (.tmp rfl) rfl (.tmp rfl) (by first | rfl | assumption) (QT.cs_length _ _) (QT.cs_length _ _) rfl ?_ | refine JL.store_box 0 ty58 (.tmp rfl) rfl (.tmp rfl) (by first | rfl | assumption) rfl rfl rfl rfl ?_ | refine JL.store_box 0 ty58 (.tmp rfl) rfl (.tmp rfl) (by first | rfl | assumption) (QT.cs_length _ _) rfl rfl rfl ?_
    refine JL.q rfl rfl rfl (QW.assign (.tmp rfl)) ?_
    refine JL.nil ?_
    refine thenQ.n ?_
    refine J.seq ?_
    refine J.seq ?_
    refine J.region_lit ?_
    refine JL.q rfl rfl rfl (QW.move (.tmp rfl)) ?_
    refine JL.q rfl rfl rfl (QW.call gofn40 (.cons (.tmp rfl) .nil) (num18_ok _)) ?_
    refine JL.q rfl rfl rfl (QW.neq (.tmp rfl) .const) ?_
    refine JL.nil ?_
    refine thenQ.n ?_
    refine J.cond (.tmp rfl) (fun c2 => ?_) (fun c2 => ?_)
    · skip
      exact absurd c2 (by simp)
      --closed
    · skip
      skip
      refine J.skip ?_
      refine thenQ.n ?_
      refine J.seq ?_
      refine J.region_lit ?_
      refine JL.q rfl rfl rfl (QW.assign .const) ?_
      refine JL.q rfl rfl rfl (QW.assign .const) ?_
      refine JL.nil ?_
      refine thenQ.n ?_
      refine J.seq ?_
      refine J.seq ?_
      refine J.region_lit ?_
      refine JL.q rfl rfl rfl (QW.assign .const) ?_
      refine JL.nil ?_
      refine thenQ.n ?_
      refine J.block ?_
      refine J.reown (Reown.nilArrE eEv _) ?_
      refine J.reown (Reown.nilArrE eEv _) ?_
      refine J.loopK (ι := Nat × List EvT × Nat × Value × Value) [0, 1, 2, 7] (fun ⟨j, I, k, vi, vo⟩ => [(11, .c (.int .i64 (j : Int))), (9, .c vi), (10, .c vo)]) (fun ⟨j, I, k, vi, vo⟩ oo => List.set (List.set (List.set oo 0 (.box b7 ((QT.at lim I k).cs true))) 1 (.arr vi eEv (EvT.css false I))) 2 (.arr vo eEv (EvT.css true (I.take k)))) (fun ⟨j, I, k, vi, vo⟩ => j ≤ 40 ∧ QAt lim I k j) (fun ⟨j, I, k, vi, vo⟩ => 40 - j) ⟨0, [], 0, .slice none 0 0, .slice none 0 0⟩ (⟨by decide, .start hlm1⟩) (Wk.re (.cons rfl (.refl _) (.cons rfl (.refl _) (.cons rfl (.refl _) (.cons rfl (.refl _) (.cons rfl (.refl _) (.cons rfl (.refl _) (.cons rfl (.refl _) .nil))))))) (Reown.refl _) (fun _ h => by first | exact h | simp [h])) ?_
      intro ⟨j, I, k, vi, vo⟩ ⟨hj, hA⟩
      refine J.conv (by (try simp only [stepsO, List.map_cons, List.map_nil, valO, nthO, curO, mrg, List.reverse_cons, List.reverse_nil, List.nil_append, List.cons_append, List.append_nil, List.getElem?_cons_zero, List.getElem?_cons_succ, Option.map_some, Option.getD_some, List.set_cons_zero, List.set_cons_succ, AV.cellsOf, splice_zero, splice_succ, Nat.zero_add, Nat.reduceAdd]); rfl) ?_
      have hk1 := hA.hk
      have hn1 := hA.hn
      refine J.seq ?_
      refine J.seq ?_
      refine J.region_lit ?_
      refine JL.q rfl rfl rfl (QW.move (.tmp rfl)) ?_
      refine JL.q rfl rfl rfl (QW.move (.tmp rfl)) ?_
      refine JL.q rfl rfl rfl (by first | exact QW.len_slE sl56 (.tmp rfl) (EvT.css_length _ _) | exact QW.len_sl sl56 (.tmp rfl) | exact QW.len_nil sl56 (.tmp rfl)) ?_
      refine JL.q rfl rfl rfl (QW.lss (.tmp rfl) (.tmp rfl)) ?_
      refine JL.q rfl rfl rfl (QW.move (.tmp rfl)) ?_
      refine JL.g rfl rfl rfl rfl rfl (fun hg => (QW.move (.tmp rfl))) ?_
      refine JL.g rfl rfl rfl rfl rfl (fun hg => (QW.lss (.when rfl hg) .const)) ?_
      refine JL.q rfl rfl rfl (QW.pick_and (.tmp rfl) (.tmp rfl)) ?_
      refine JL.nil ?_
      refine thenQ.n ?_
      refine J.cond (.tmp rfl) (fun c3 => ?_) (fun c3 => ?_)
      · skip
        simp [EvT.css_length] at c3
        obtain ⟨hj1, hj2⟩ := c3
        refine J.skip ?_
        refine thenQ.n ?_
        refine J.seq ?_
        refine J.block ?_
        refine J.seq ?_
        obtain ⟨q2, m2, f2, g2, hc1, hc2⟩ := hA.push (hev.2 _ (List.getElem_mem hj1)) (by omega)
        refine J.region_outK 13 2 (fun os_ ow_ x_ o_ => match os_ with | [] => (∃ b_, x_ = .c (.pointer (some ⟨b_, 0, none⟩)) ∧ o_ = ow_ ++ [.box b_ ([.int .i64 0, .int .i64 0, .slice none 0 0].map AV.c)]) | [(x0_, _)] => (∃ b_, x0_ = .c (.pointer (some ⟨b_, 0, none⟩)) ∧ x_ = .c undef ∧ o_ = ow_.set 3 (.box b_ (q2.cs true))) | _ => False) mixed (by kernel_rfl) (by kernel_rfl) (by kernel_rfl) rfl ?_
        refine OutK.quiet [] rfl rfl rfl (fun qs_ qv_ ql_ => by
            rcases qs_ with _ | ⟨⟨y0, p0⟩, qs_⟩
            · skip
              exact (.q rfl (by first | exact QW.load_box 0 ty58 (.tmp rfl) rfl rfl rfl | exact QW.load_box 0 ty58 (.tmp rfl) rfl (take_at (QT.cs_length _ _) rfl) (QT.cs_length _ _)))
            rcases qs_ with _ | ⟨⟨y1, p1⟩, qs_⟩
            · skip
              obtain ⟨hr0, _⟩ := qv_
              obtain ⟨b12, rfl, rfl⟩ := hr0
              exact (.q rfl (by first | exact QW.load_box 0 ty58 (.tmp rfl) rfl rfl rfl | exact QW.load_box 0 ty58 (.tmp rfl) rfl (take_at (QT.cs_length _ _) rfl) (QT.cs_length _ _)))
            rcases qs_ with _ | ⟨⟨y2, p2⟩, qs_⟩
            · skip
              obtain ⟨hr1, hr0, _⟩ := qv_
              obtain ⟨b12, rfl, rfl⟩ := hr0
              obtain ⟨_, ⟨⟩, rfl, rfl⟩ := hr1
              exact (.q rfl (by first | exact QW.load_box 0 ty58 (.tmp rfl) rfl rfl rfl | exact QW.load_box 0 ty58 (.tmp rfl) rfl (take_at (QT.cs_length _ _) rfl) (QT.cs_length _ _)))
            exact absurd ql_ (by simp)) ?_
        refine OutK.quiet [] rfl rfl rfl (fun qs_ qv_ ql_ => (.q rfl (QW.move (.tmp rfl)))) ?_
        refine OutK.quiet [] rfl rfl rfl (fun qs_ qv_ ql_ => (.q rfl (QW.move (.tmp rfl)))) ?_
        refine OutK.quiet [51, 52] rfl rfl rfl (fun qs_ qv_ ql_ => (.q rfl (QW.index_sl sl56 ty70 rfl (.tmp rfl) (.tmp rfl) (by first | rfl | omega | (simp; done)) (by exact EvT.css_getE _ hj1)))) ?_
        refine OutK.quiet [53] rfl rfl rfl (fun qs_ qv_ ql_ => (.q rfl (by first | exact QW.load_ref ty70 (.tmp rfl) rfl rfl | exact QW.load_ref ty70 (.tmp rfl) (take_at0 (EvT.cs_length _ _) rfl) (EvT.cs_length _ _)))) ?_
        refine OutK.quiet [50, 54] rfl rfl rfl (fun qs_ qv_ ql_ => (.q rfl (QW.call gofn42 (.cons (.tmp rfl) (.cons (.tmp rfl) .nil)) (pushAt hA (hev.2 _ (List.getElem_mem hj1)) g2)))) ?_
        refine OutK.quiet [55] rfl rfl rfl (fun qs_ qv_ ql_ => (.q rfl (QW.move (.tmp rfl)))) ?_
        refine OutK.quiet [49] rfl rfl rfl (fun qs_ qv_ ql_ => (.q rfl (QW.extract (.tmp rfl) rfl))) ?_
        refine OutK.quiet [49] rfl rfl rfl (fun qs_ qv_ ql_ => (.q rfl (QW.extract (.tmp rfl) rfl))) ?_
        refine OutK.quiet [49] rfl rfl rfl (fun qs_ qv_ ql_ => (.q rfl (QW.extract (.tmp rfl) rfl))) ?_
        refine OutK.loud [] rfl rfl rfl rfl rfl (fun qs_ qv_ ql_ => by
            obtain rfl : qs_ = [] := List.length_eq_zero_iff.1 ql_
            exact LStepR.alloc (d := 12) z58 rfl) ?_
        refine OutK.store [12, 56] rfl (fun qs_ ow x o h ql_ => by
            obtain ⟨⟨y0, p0⟩, qs_, rfl⟩ : ∃ p t, qs_ = p :: t := by (cases qs_ with | nil => simp at ql_ | cons p t => exact ⟨p, t, rfl⟩)
            obtain rfl : qs_ = [] := List.length_eq_zero_iff.1 (by simpa using ql_)
            exact h.elim fun _ h => h.2.1) rfl rfl rfl (fun qs_ qv_ ql_ => by
            obtain ⟨⟨y0, p0⟩, qs_, rfl⟩ : ∃ p t, qs_ = p :: t := by (cases qs_ with | nil => simp at ql_ | cons p t => exact ⟨p, t, rfl⟩)
            obtain rfl : qs_ = [] := List.length_eq_zero_iff.1 (by simpa using ql_)
            obtain ⟨hr0, _⟩ := qv_
            obtain ⟨b12, rfl, rfl⟩ := hr0
            exact LStep.toR rfl (by first | exact LStep.store_boxF 3 ty58 (.tmp rfl) rfl (.tmp rfl) (by first | rfl | assumption) (rfl) (rfl) rfl | exact LStep.store_boxF 3 ty58 (.tmp rfl) rfl (.tmp rfl) (by first | rfl | assumption) (rfl) (QT.cs_length _ _) rfl | exact LStep.store_boxF 3 ty58 (.tmp rfl) rfl (.tmp rfl) (by first | rfl | assumption) (QT.cs_length _ _) (rfl) rfl | exact LStep.store_boxF 3 ty58 (.tmp rfl) rfl (.tmp rfl) (by first | rfl | assumption) (QT.cs_length _ _) (QT.cs_length _ _) rfl | exact LStep.store_box 3 ty58 (.tmp rfl) rfl (.tmp rfl) (by first | rfl | assumption) rfl rfl rfl rfl | exact LStep.store_box 3 ty58 (.tmp rfl) rfl (.tmp rfl) (by first | rfl | assumption) (QT.cs_length _ _) rfl rfl rfl) ⟨_, rfl, rfl, rfl⟩) ?_
        refine OutK.quiet [57] rfl rfl rfl (fun qs_ qv_ ql_ => (.q rfl (QW.assign (.tmp rfl)))) ?_
        refine .nil fun qs_ qv_ ql_ => ?_
        obtain ⟨⟨y1, p1⟩, qs_, rfl⟩ : ∃ p t, qs_ = p :: t := by (cases qs_ with | nil => simp at ql_ | cons p t => exact ⟨p, t, rfl⟩)
        simp only [List.length_cons, Nat.add_right_cancel_iff] at ql_
        obtain ⟨⟨y0, p0⟩, qs_, rfl⟩ : ∃ p t, qs_ = p :: t := by (cases qs_ with | nil => simp at ql_ | cons p t => exact ⟨p, t, rfl⟩)
        obtain rfl : qs_ = [] := List.length_eq_zero_iff.1 (by simpa using ql_)
        obtain ⟨hr1, hr0, _⟩ := qv_
        obtain ⟨b12, rfl, rfl⟩ := hr0
        obtain ⟨_, ⟨⟩, rfl, rfl⟩ := hr1
        refine JL.conv (by (try simp only [stepsO, List.map_cons, List.map_nil, valO, nthO, curO, mrg, List.reverse_cons, List.reverse_nil, List.nil_append, List.cons_append, List.append_nil, List.getElem?_cons_zero, List.getElem?_cons_succ, Option.map_some, Option.getD_some, List.set_cons_zero, List.set_cons_succ, AV.cellsOf, splice_zero, splice_succ, Nat.zero_add, Nat.reduceAdd]); rfl) ?_
        refine JL.q rfl rfl rfl (QW.assign (.tmp rfl)) ?_
        refine JL.nil ?_
        refine thenQ.n ?_
        refine J.seq ?_
        refine J.block ?_
        refine J.seq ?_
        refine J.region_lit ?_
        refine JL.q rfl rfl rfl (QW.move (.tmp rfl)) ?_
        refine JL.q rfl rfl rfl (QW.call gofn40 (.cons (.tmp rfl) .nil) (num18_ok _)) ?_
        refine JL.q rfl rfl rfl (QW.eql (.tmp rfl) .const) ?_
        refine JL.q rfl rfl rfl (QW.assign (.tmp rfl)) ?_
        refine JL.nil ?_
        refine thenQ.n ?_
        refine J.cond (.tmp rfl) (fun c4 => ?_) (fun c4 => ?_)
        · skip
          simp at c4
          obtain ⟨hq2, hm2, hA2⟩ := hc1 c4
          subst hq2 hm2
          refine J.seq ?_
          refine J.region_lit ?_
          refine JL.q rfl rfl rfl (by first | exact QW.load_box 3 ty58 (.tmp rfl) rfl rfl rfl | exact QW.load_box 3 ty58 (.tmp rfl) rfl (take_at (QT.cs_length _ _) rfl) (QT.cs_length _ _)) ?_
          first | refine JL.store_boxF 0 ty58 (.tmp rfl) rfl (.tmp rfl) (by first | rfl | assumption) (rfl) (rfl) rfl ?_ | refine JL.store_boxF 0 ty58 (.tmp rfl) rfl (.tmp rfl) (by first | rfl | assumption) (rfl) (QT.cs_length _ _) rfl ?_ | refine JL.store_boxF 0 ty58 (.tmp rfl) rfl (.tmp rfl) (by first | rfl | assumption) (QT.cs_length _ _) (rfl) rfl ?_ | refine JL.store_boxF 0 ty58 (.tmp rfl) rfl (.tmp rfl) (by first | rfl | assumption) (QT.cs_length _ _) (QT.cs_length _ _) rfl ?_ | refine JL.store_box 0 ty58 (.tmp rfl) rfl (.tmp rfl) (by first | rfl | assumption) rfl rfl rfl rfl ?_ | refine JL.store_box 0 ty58 (.tmp rfl) rfl (.tmp rfl) (by first | rfl | assumption) (QT.cs_length _ _) rfl rfl rfl ?_
          refine JL.nil ?_
          refine thenQ.n ?_
          refine J.seq ?_
          refine J.region_lit ?_
          refine JL.q rfl rfl rfl (QW.move (.tmp rfl)) ?_
          refine JL.q rfl rfl rfl (QW.move (.tmp rfl)) ?_
          refine JL.q rfl rfl rfl (QW.move (.tmp rfl)) ?_
          refine JL.q rfl rfl rfl (QW.index_sl sl56 ty70 rfl (.tmp rfl) (.tmp rfl) (by first | rfl | omega | (simp; done)) (by exact EvT.css_getE _ hj1)) ?_
          refine JL.q rfl rfl rfl (by first | exact QW.load_ref ty70 (.tmp rfl) rfl rfl | exact QW.load_ref ty70 (.tmp rfl) (take_at0 (EvT.cs_length _ _) rfl) (EvT.cs_length _ _)) ?_
          refine JL.q rfl rfl rfl (QW.buildSlice (idx := [0]) (xs := [EvT.cs false (es[j]'hj1)]) sl56 el70 z70 rfl (.cons (.tmp rfl) .nil) rfl rfl rfl rfl rfl (by exact fill_one (EvT.cs_length _ _)) rfl (all_one (EvT.cs_length _ _)) rfl) ?_
          refine JL.append 1 sl56 el70 rfl (.tmp rfl) rfl (srcA_sl sl56 (.tmp rfl)) (by rw [EvT.css_length]; simp; have := hA.hn; unfold reach; omega) rfl fun v70 => ?_
          refine JL.q rfl rfl rfl (QW.assign (.tmp rfl)) ?_
          refine JL.nil ?_
          refine thenQ.n ?_
          refine J.seq ?_
          refine J.region_lit ?_
          refine JL.q rfl rfl rfl (QW.move (.tmp rfl)) ?_
          refine JL.q rfl rfl rfl (QW.move (.tmp rfl)) ?_
          refine JL.q rfl rfl rfl (QW.len_arr 1 sl56 (.tmp rfl) rfl) ?_
          refine JL.q rfl rfl rfl (QW.neq (.tmp rfl) (.tmp rfl)) ?_
          refine JL.nil ?_
          refine thenQ.n ?_
          refine J.cond (.tmp rfl) (fun c5 => ?_) (fun c5 => ?_)
          · skip
            exact absurd c5 (by simp [EvT.css])
            --closed
          · skip
            obtain ⟨I2, hI2⟩ : ∃ I2, I2 = I ++ [es[j]'hj1] := ⟨_, rfl⟩
            rw [← hI2] at hA2
            have hk2 := hA2.hk
            have hn2 := hA2.hn
            refine J.reown (own' := [.box b7 ((QT.at lim I2 k).cs true), .arr v70 eEv (EvT.css false I2), .arr vo eEv (EvT.css true (I2.take k)), .box b12 ((QT.at lim I2 k).cs true)]) (Reown.ofEq (by rw [hI2, List.take_append_of_le_length hA.hk, EvT.css_append]; rfl)) ?_
            refine J.skip ?_
            refine blkQ.n ?_
            refine thenQ.n ?_
            refine J.seq ?_
            refine J.seq ?_
            refine J.region_lit ?_
            refine JL.q rfl rfl rfl (QW.move (.tmp rfl)) ?_
            refine JL.q rfl rfl rfl (QW.move (.tmp rfl)) ?_
            refine JL.q rfl rfl rfl (by first | exact QW.len_slE sl66 (.tmp rfl) (EvT.css_length _ _) | exact QW.len_sl sl66 (.tmp rfl) | exact QW.len_nil sl66 (.tmp rfl)) ?_
            refine JL.q rfl rfl rfl (QW.geq (.tmp rfl) (.tmp rfl)) ?_
            refine JL.nil ?_
            refine thenQ.n ?_
            refine J.cond (.tmp rfl) (fun c6 => ?_) (fun c6 => ?_)
            · skip
              refine J.exit ?_
              refine thenQ.x ?_
              refine blkQ.hit ?_
              refine thenQ.n ?_
              refine J.region_lit ?_
              refine JL.q rfl rfl rfl (QW.move (.tmp rfl)) ?_
              refine JL.q rfl rfl rfl (QW.add (.tmp rfl) .const (by first | exact w64n (by first | rfl | omega | (simp; done)) (by omega) | exact w64 (by omega) | exact w64 (by simp only [EvT.css_length, List.length_take, List.length_append]; omega) | rfl)) ?_
              refine JL.q rfl rfl rfl (QW.assign (.tmp rfl)) ?_
              refine JL.nil ?_
              refine thenQ.n ?_
              exact ⟨⟨j + 1, I2, k, v70, vo⟩, ⟨by omega, hA2⟩, by show 40 - (j + 1) < 40 - j; omega, Wk.re (.cons rfl (.refl _) (.cons rfl (.refl _) (.cons rfl (.refl _) (.cons rfl (.refl _) (.cons rfl (.refl _) (.cons rfl (.refl _) (.cons rfl (.refl _) .nil))))))) (Reown.mask [.p, .p, .p] _ rfl) (fun _ h => by first | exact h | simp [h])⟩
            · skip
              have hj3 : j < ts.length := by simp [intsAV_length] at c6; omega
              refine J.skip ?_
              refine thenQ.n ?_
              refine J.seq ?_
              have u1 := tmod_b (ts[j]'hj3) 4 (by decide)
              have u2 := tmod_nn (n := (ts[j]'hj3).tmod 4 + 4) 4 (by simp only [Int.cast_ofNat_Int] at u1; omega)
              have u3 := tmod_b ((ts[j]'hj3).tmod 4 + 4) 4 (by decide)
              simp only [Int.cast_ofNat_Int] at u1 u2 u3
              refine J.region_lit ?_
              refine JL.q rfl rfl rfl (QW.move (.tmp rfl)) ?_
              refine JL.q rfl rfl rfl (QW.move (.tmp rfl)) ?_
              refine JL.q rfl rfl rfl (QW.index_sl sl66 ty3 rfl (.tmp rfl) (.tmp rfl) (by first | rfl | omega | (simp; done)) (by exact intsAV_getE hj3)) ?_
              refine JL.q rfl rfl rfl (QW.load_ref1 ty3 (.tmp rfl) rfl) ?_
              refine JL.q rfl rfl rfl (QW.rem (.tmp rfl) .const (by first | decide | omega) rfl) ?_
              refine JL.q rfl rfl rfl (QW.add (.tmp rfl) .const (by first | exact w64n (by first | rfl | omega | (simp; done)) (by omega) | exact w64 (by omega) | exact w64 (by simp only [EvT.css_length, List.length_take, List.length_append]; omega) | rfl)) ?_
              refine JL.q rfl rfl rfl (QW.rem (.tmp rfl) .const (by first | decide | omega) rfl) ?_
              refine JL.q rfl rfl rfl (QW.assign (.tmp rfl)) ?_
              refine JL.nil ?_
              refine thenQ.n ?_
              refine J.seq ?_
              generalize hcc : (((ts[j]'hj3).tmod 4 + 4).tmod 4) = cc
              have hcc1 : 0 ≤ cc ∧ cc ≤ 3 := by omega
              obtain ⟨m3, hm3, g3, hA3⟩ := hA2.take cc hcc1.1
              refine J.region_lit ?_
              refine JL.q rfl rfl rfl (by first | exact QW.load_box 0 ty58 (.tmp rfl) rfl rfl rfl | exact QW.load_box 0 ty58 (.tmp rfl) rfl (take_at (QT.cs_length _ _) rfl) (QT.cs_length _ _)) ?_
              refine JL.q rfl rfl rfl (QW.move (.tmp rfl)) ?_
              refine JL.q rfl rfl rfl (QW.call gofn43 (.cons (.tmp rfl) (.cons (.tmp rfl) .nil)) (takeAt hA2 g3)) ?_
              refine JL.q rfl rfl rfl (QW.move (.tmp rfl)) ?_
              refine JL.q rfl rfl rfl (QW.extract (.tmp rfl) rfl) ?_
              refine JL.q rfl rfl rfl (QW.extract (.tmp rfl) rfl) ?_
              refine JL.q rfl rfl rfl (QW.extract (.tmp rfl) rfl) ?_
              refine JL.q rfl rfl rfl (QW.extract (.tmp rfl) rfl) ?_
              refine JL.alloc z58 rfl rfl fun b16 => ?_
              first | refine JL.store_boxF 0 ty58 (.tmp rfl) rfl (.tmp rfl) (by first | rfl | assumption) (rfl) (rfl) rfl ?_ | refine JL.store_boxF 0 ty58 (.tmp rfl) rfl (.tmp rfl) (by first | rfl | assumption) (rfl) (QT.cs_length _ _) rfl ?_ | refine JL.store_boxF 0 ty58 (.tmp rfl) rfl (.tmp rfl) (by first | rfl | assumption) (QT.cs_length _ _) (rfl) rfl ?_ | refine JL.store_boxF 0 ty58 (.tmp rfl) rfl (.tmp rfl) (by first | rfl | assumption) (QT.cs_length _ _) (QT.cs_length _ _) rfl ?_ | refine JL.store_box 0 ty58 (.tmp rfl) rfl (.tmp rfl) (by first | rfl | assumption) rfl rfl rfl rfl ?_ | refine JL.store_box 0 ty58 (.tmp rfl) rfl (.tmp rfl) (by first | rfl | assumption) (QT.cs_length _ _) rfl rfl rfl ?_
              refine JL.q rfl rfl rfl (QW.assign (.tmp rfl)) ?_
              refine JL.q rfl rfl rfl (QW.assign (.tmp rfl)) ?_
              refine JL.q rfl rfl rfl (QW.assign (.tmp rfl)) ?_
              refine JL.nil ?_
              refine thenQ.n ?_
              refine J.seq ?_
              refine J.seq ?_
              refine J.region_lit ?_
              refine JL.q rfl rfl rfl (QW.move (.tmp rfl)) ?_
              refine JL.q rfl rfl rfl (QW.call gofn40 (.cons (.tmp rfl) .nil) (num18_ok _)) ?_
              refine JL.q rfl rfl rfl (QW.neq (.tmp rfl) .const) ?_
              refine JL.q rfl rfl rfl (QW.move (.tmp rfl)) ?_
              refine JL.g rfl rfl rfl rfl rfl (fun hg => (QW.move (.tmp rfl))) ?_
              refine JL.g rfl rfl rfl rfl rfl (fun hg => (by first | exact QW.len_slE sl56 (.when rfl hg) (EvT.css_length _ _) | exact QW.len_sl sl56 (.when rfl hg) | exact QW.len_nil sl56 (.when rfl hg))) ?_
              refine JL.g rfl rfl rfl rfl rfl (fun hg => (QW.move (.tmp rfl))) ?_
              refine JL.g rfl rfl rfl rfl rfl (fun hg => (QW.move (.tmp rfl))) ?_
              refine JL.g rfl rfl rfl rfl rfl (fun hg => (QW.len_arr 2 sl56 (.when rfl hg) rfl)) ?_
              refine JL.g rfl rfl rfl rfl rfl (fun hg => (QW.move (.tmp rfl))) ?_
              refine JL.g rfl rfl rfl rfl rfl (fun hg => (QW.len_arr 3 sl56 (.when rfl hg) rfl)) ?_
              refine JL.g rfl rfl rfl rfl rfl (fun hg => (QW.sub (.when rfl hg) (.when rfl hg) (by first | exact w64n (by first | rfl | omega | (simp; done)) (by omega) | exact w64 (by omega) | exact w64 (by simp only [EvT.css_length, List.length_take, List.length_append]; omega) | rfl))) ?_
              refine JL.g rfl rfl rfl rfl rfl (fun hg => (QW.min2 (.when rfl hg) (.when rfl hg))) ?_
              refine JL.g rfl rfl rfl rfl rfl (fun hg => (QW.neq (.when rfl hg) (.when rfl hg))) ?_
              refine JL.q rfl rfl rfl (QW.pick_or (.tmp rfl) (.tmp rfl)) ?_
              refine JL.q rfl rfl rfl (QW.move (.tmp rfl)) ?_
              refine JL.g rfl rfl rfl rfl rfl (fun hg => (QW.move (.tmp rfl))) ?_
              refine JL.g rfl rfl rfl rfl rfl (fun hg => (by first | exact QW.len_slE sl56 (.when rfl hg) (EvT.css_length _ _) | exact QW.len_sl sl56 (.when rfl hg) | exact QW.len_nil sl56 (.when rfl hg))) ?_
              refine JL.g rfl rfl rfl rfl rfl (fun hg => (QW.gtr (.when rfl hg) .const)) ?_
              refine JL.g rfl rfl rfl rfl rfl (fun hg => (QW.move (.when rfl hg))) ?_
              refine JL.gg rfl rfl rfl rfl rfl (fun hg => (QW.move (.tmp rfl))) ?_
              refine JL.gg rfl rfl rfl rfl rfl (fun hg => (QW.move (.tmp rfl))) ?_
              refine JL.gg rfl rfl rfl rfl rfl (fun hg => (QW.len_arr 3 sl56 (.when rfl hg) rfl)) ?_
              refine JL.gg rfl rfl rfl rfl rfl (fun hg => (QW.add (.when rfl hg) .const (by first | exact w64n (by first | rfl | omega | (simp; done)) (by omega) | exact w64 (by omega) | exact w64 (by simp only [EvT.css_length, List.length_take, List.length_append]; omega) | rfl))) ?_
              refine JL.gg rfl rfl rfl rfl rfl (fun hg => (QW.neq (.when rfl hg) (.when rfl hg))) ?_
              refine JL.g rfl rfl rfl rfl rfl (fun hg => (by first | exact QW.pick_and (.when rfl hg) (.tmp rfl) | exact QW.pick_and2 hg (.when rfl hg) (.tmp rfl))) ?_
              refine JL.q rfl rfl rfl (QW.pick_or (.tmp rfl) (.tmp rfl)) ?_
              refine JL.q rfl rfl rfl (QW.move (.tmp rfl)) ?_
              refine JL.g rfl rfl rfl rfl rfl (fun hg => (QW.move (.tmp rfl))) ?_
              refine JL.g rfl rfl rfl rfl rfl (fun hg => (by first | exact QW.len_slE sl56 (.when rfl hg) (EvT.css_length _ _) | exact QW.len_sl sl56 (.when rfl hg) | exact QW.len_nil sl56 (.when rfl hg))) ?_
              refine JL.g rfl rfl rfl rfl rfl (fun hg => (QW.eql (.when rfl hg) .const)) ?_
              refine JL.g rfl rfl rfl rfl rfl (fun hg => (QW.move (.when rfl hg))) ?_
              refine JL.gg rfl rfl rfl rfl rfl (fun hg => (QW.move (.tmp rfl))) ?_
              refine JL.gg rfl rfl rfl rfl rfl (fun hg => (QW.neq (.when rfl hg) .const)) ?_
              refine JL.g rfl rfl rfl rfl rfl (fun hg => (by first | exact QW.pick_and (.when rfl hg) (.tmp rfl) | exact QW.pick_and2 hg (.when rfl hg) (.tmp rfl))) ?_
              refine JL.q rfl rfl rfl (QW.pick_or (.tmp rfl) (.tmp rfl)) ?_
              refine JL.nil ?_
              refine thenQ.n ?_
              refine J.cond (.tmp rfl) (fun c7 => ?_) (fun c7 => ?_)
              · skip
                exfalso
                have hk3 := hA3.hk
                have e1 : ((I2.drop k).take m3).length = m3 := by (simp; omega)
                have e2 : (EvT.css true (I2.take k)).length = k := by (rw [EvT.css_length]; simp; omega)
                rw [e1, e2, EvT.css_length] at c7
                by_cases hm0 : 0 < m3
                · simp [hm0] at c7
                  split at c7 <;> omega
                · simp [hm0] at c7
                  split at c7 <;> omega
                --closed
              · skip
                refine J.skip ?_
                refine thenQ.n ?_
                refine J.seq ?_
                refine J.region_lit ?_
                refine JL.q rfl rfl rfl (by first | exact QW.load_box 0 ty58 (.tmp rfl) rfl rfl rfl | exact QW.load_box 0 ty58 (.tmp rfl) rfl (take_at (QT.cs_length _ _) rfl) (QT.cs_length _ _)) ?_
                first | refine JL.store_boxF 1 ty58 (.tmp rfl) rfl (.tmp rfl) (by first | rfl | assumption) (rfl) (rfl) rfl ?_ | refine JL.store_boxF 1 ty58 (.tmp rfl) rfl (.tmp rfl) (by first | rfl | assumption) (rfl) (QT.cs_length _ _) rfl ?_ | refine JL.store_boxF 1 ty58 (.tmp rfl) rfl (.tmp rfl) (by first | rfl | assumption) (QT.cs_length _ _) (rfl) rfl ?_ | refine JL.store_boxF 1 ty58 (.tmp rfl) rfl (.tmp rfl) (by first | rfl | assumption) (QT.cs_length _ _) (QT.cs_length _ _) rfl ?_ | refine JL.store_box 1 ty58 (.tmp rfl) rfl (.tmp rfl) (by first | rfl | assumption) rfl rfl rfl rfl ?_ | refine JL.store_box 1 ty58 (.tmp rfl) rfl (.tmp rfl) (by first | rfl | assumption) (QT.cs_length _ _) rfl rfl rfl ?_
                refine JL.nil ?_
                refine thenQ.n ?_
                refine J.region_lit ?_
                refine JL.q rfl rfl rfl (QW.move (.tmp rfl)) ?_
                refine JL.q rfl rfl rfl (QW.move (.tmp rfl)) ?_
                refine JL.append 3 sl56 el70 rfl (.tmp rfl) rfl (srcA_sl sl56 (.tmp rfl)) (by rw [EvT.css_length, EvT.css_length]; simp; unfold reach; omega) rfl fun v146 => ?_
                refine JL.q rfl rfl rfl (QW.assign (.tmp rfl)) ?_
                refine JL.nil ?_
                refine blkQ.n ?_
                refine thenQ.n ?_
                refine J.region_lit ?_
                refine JL.q rfl rfl rfl (QW.move (.tmp rfl)) ?_
                refine JL.q rfl rfl rfl (QW.add (.tmp rfl) .const (by first | exact w64n (by first | rfl | omega | (simp; done)) (by omega) | exact w64 (by omega) | exact w64 (by simp only [EvT.css_length, List.length_take, List.length_append]; omega) | rfl)) ?_
                refine JL.q rfl rfl rfl (QW.assign (.tmp rfl)) ?_
                refine JL.nil ?_
                refine thenQ.n ?_
                exact ⟨⟨j + 1, I2, k + m3, v70, v146⟩, ⟨by omega, hA3⟩, by show 40 - (j + 1) < 40 - j; omega, Wk.re (.cons rfl (.refl _) (.cons rfl (.refl _) (.cons rfl (.refl _) (.cons rfl (.refl _) (.cons rfl (.refl _) (.cons rfl (.refl _) (.cons rfl (.refl _) .nil))))))) ((Reown.mask [.k, .p, .p, .p] _ rfl).trans (Reown.ofEq (by show [_, _, _] = [_, _, _]; congr 3; rw [← EvT.css_append, List.take_add]; rfl))) (fun _ h => by first | exact h | simp [h])⟩
        · skip
          have hA2 : QAt lim I k (j + 1) := ⟨hA.hk, by have := hA.hn; omega, hA.ok, hA.wf⟩
          refine J.seq ?_
          refine J.region_lit ?_
          refine JL.q rfl rfl rfl (QW.move (.tmp rfl)) ?_
          refine JL.q rfl rfl rfl (QW.call gofn40 (.cons (.tmp rfl) .nil) (num18_ok _)) ?_
          refine JL.q rfl rfl rfl (QW.eql (.tmp rfl) .const) ?_
          refine JL.q rfl rfl rfl (QW.move (.tmp rfl)) ?_
          refine JL.g rfl rfl rfl rfl rfl (fun hg => (QW.move (.tmp rfl))) ?_
          refine JL.g rfl rfl rfl rfl rfl (fun hg => (QW.len_arr 1 sl56 (.when rfl hg) rfl)) ?_
          refine JL.g rfl rfl rfl rfl rfl (fun hg => (QW.move (.tmp rfl))) ?_
          refine JL.g rfl rfl rfl rfl rfl (fun hg => (QW.len_arr 2 sl56 (.when rfl hg) rfl)) ?_
          refine JL.g rfl rfl rfl rfl rfl (fun hg => (QW.sub (.when rfl hg) (.when rfl hg) (by first | exact w64n (by first | rfl | omega | (simp; done)) (by omega) | exact w64 (by omega) | exact w64 (by simp only [EvT.css_length, List.length_take, List.length_append]; omega) | rfl))) ?_
          refine JL.g rfl rfl rfl rfl rfl (fun hg => (QW.move (.tmp rfl))) ?_
          refine JL.g rfl rfl rfl rfl rfl (fun hg => (QW.neq (.when rfl hg) (.when rfl hg))) ?_
          refine JL.q rfl rfl rfl (QW.pick_and (.tmp rfl) (.tmp rfl)) ?_
          refine JL.q rfl rfl rfl (QW.assign (.tmp rfl)) ?_
          refine JL.nil ?_
          refine thenQ.n ?_
          refine J.cond (.tmp rfl) (fun c5 => ?_) (fun c5 => ?_)
          · skip
            exfalso
            simp at c5
            have h51 := hc2 c5.1
            have := hA.hk
            have := c5.2
            simp [EvT.css_length] at this
            omega
            --closed
          · skip
            obtain ⟨I2, hI2⟩ : ∃ I2, I2 = I := ⟨_, rfl⟩
            rw [← hI2] at hA2
            have hk2 := hA2.hk
            have hn2 := hA2.hn
            refine J.reown (own' := [.box b7 ((QT.at lim I2 k).cs true), .arr vi eEv (EvT.css false I2), .arr vo eEv (EvT.css true (I2.take k)), .box b12 (q2.cs true)]) (Reown.ofEq (by rw [hI2])) ?_
            refine J.skip ?_
            refine blkQ.n ?_
            refine thenQ.n ?_
            refine J.seq ?_
            refine J.seq ?_
            refine J.region_lit ?_
            refine JL.q rfl rfl rfl (QW.move (.tmp rfl)) ?_
            refine JL.q rfl rfl rfl (QW.move (.tmp rfl)) ?_
            refine JL.q rfl rfl rfl (by first | exact QW.len_slE sl66 (.tmp rfl) (EvT.css_length _ _) | exact QW.len_sl sl66 (.tmp rfl) | exact QW.len_nil sl66 (.tmp rfl)) ?_
            refine JL.q rfl rfl rfl (QW.geq (.tmp rfl) (.tmp rfl)) ?_
            refine JL.nil ?_
            refine thenQ.n ?_
            refine J.cond (.tmp rfl) (fun c6 => ?_) (fun c6 => ?_)
            · skip
              refine J.exit ?_
              refine thenQ.x ?_
              refine blkQ.hit ?_
              refine thenQ.n ?_
              refine J.region_lit ?_
              refine JL.q rfl rfl rfl (QW.move (.tmp rfl)) ?_
              refine JL.q rfl rfl rfl (QW.add (.tmp rfl) .const (by first | exact w64n (by first | rfl | omega | (simp; done)) (by omega) | exact w64 (by omega) | exact w64 (by simp only [EvT.css_length, List.length_take, List.length_append]; omega) | rfl)) ?_
              refine JL.q rfl rfl rfl (QW.assign (.tmp rfl)) ?_
              refine JL.nil ?_
              refine thenQ.n ?_
              exact ⟨⟨j + 1, I2, k, vi, vo⟩, ⟨by omega, hA2⟩, by show 40 - (j + 1) < 40 - j; omega, Wk.re (.cons rfl (.refl _) (.cons rfl (.refl _) (.cons rfl (.refl _) (.cons rfl (.refl _) (.cons rfl (.refl _) (.cons rfl (.refl _) (.cons rfl (.refl _) .nil))))))) (Reown.mask [.p, .p, .p] _ rfl) (fun _ h => by first | exact h | simp [h])⟩
            · skip
              have hj3 : j < ts.length := by simp [intsAV_length] at c6; omega
              refine J.skip ?_
              refine thenQ.n ?_
              refine J.seq ?_
              have u1 := tmod_b (ts[j]'hj3) 4 (by decide)
              have u2 := tmod_nn (n := (ts[j]'hj3).tmod 4 + 4) 4 (by simp only [Int.cast_ofNat_Int] at u1; omega)
              have u3 := tmod_b ((ts[j]'hj3).tmod 4 + 4) 4 (by decide)
              simp only [Int.cast_ofNat_Int] at u1 u2 u3
              refine J.region_lit ?_
              refine JL.q rfl rfl rfl (QW.move (.tmp rfl)) ?_
              refine JL.q rfl rfl rfl (QW.move (.tmp rfl)) ?_
              refine JL.q rfl rfl rfl (QW.index_sl sl66 ty3 rfl (.tmp rfl) (.tmp rfl) (by first | rfl | omega | (simp; done)) (by exact intsAV_getE hj3)) ?_
              refine JL.q rfl rfl rfl (QW.load_ref1 ty3 (.tmp rfl) rfl) ?_
              refine JL.q rfl rfl rfl (QW.rem (.tmp rfl) .const (by first | decide | omega) rfl) ?_
              refine JL.q rfl rfl rfl (QW.add (.tmp rfl) .const (by first | exact w64n (by first | rfl | omega | (simp; done)) (by omega) | exact w64 (by omega) | exact w64 (by simp only [EvT.css_length, List.length_take, List.length_append]; omega) | rfl)) ?_
              refine JL.q rfl rfl rfl (QW.rem (.tmp rfl) .const (by first | decide | omega) rfl) ?_
              refine JL.q rfl rfl rfl (QW.assign (.tmp rfl)) ?_
              refine JL.nil ?_
              refine thenQ.n ?_
              refine J.seq ?_
              generalize hcc : (((ts[j]'hj3).tmod 4 + 4).tmod 4) = cc
              have hcc1 : 0 ≤ cc ∧ cc ≤ 3 := by omega
              obtain ⟨m3, hm3, g3, hA3⟩ := hA2.take cc hcc1.1
              refine J.region_lit ?_
              refine JL.q rfl rfl rfl (by first | exact QW.load_box 0 ty58 (.tmp rfl) rfl rfl rfl | exact QW.load_box 0 ty58 (.tmp rfl) rfl (take_at (QT.cs_length _ _) rfl) (QT.cs_length _ _)) ?_
              refine JL.q rfl rfl rfl (QW.move (.tmp rfl)) ?_
              refine JL.q rfl rfl rfl (QW.call gofn43 (.cons (.tmp rfl) (.cons (.tmp rfl) .nil)) (takeAt hA2 g3)) ?_
              refine JL.q rfl rfl rfl (QW.move (.tmp rfl)) ?_
              refine JL.q rfl rfl rfl (QW.extract (.tmp rfl) rfl) ?_
              refine JL.q rfl rfl rfl (QW.extract (.tmp rfl) rfl) ?_
              refine JL.q rfl rfl rfl (QW.extract (.tmp rfl) rfl) ?_
              refine JL.q rfl rfl rfl (QW.extract (.tmp rfl) rfl) ?_
              refine JL.alloc z58 rfl rfl fun b16 => ?_
              first | refine JL.store_boxF 0 ty58 (.tmp rfl) rfl (.tmp rfl) (by first | rfl | assumption) (rfl) (rfl) rfl ?_ | refine JL.store_boxF 0 ty58 (.tmp rfl) rfl (.tmp rfl) (by first | rfl | assumption) (rfl) (QT.cs_length _ _) rfl ?_ | refine JL.store_boxF 0 ty58 (.tmp rfl) rfl (.tmp rfl) (by first | rfl | assumption) (QT.cs_length _ _) (rfl) rfl ?_ | refine JL.store_boxF 0 ty58 (.tmp rfl) rfl (.tmp rfl) (by first | rfl | assumption) (QT.cs_length _ _) (QT.cs_length _ _) rfl ?_ | refine JL.store_box 0 ty58 (.tmp rfl) rfl (.tmp rfl) (by first | rfl | assumption) rfl rfl rfl rfl ?_ | refine JL.store_box 0 ty58 (.tmp rfl) rfl (.tmp rfl) (by first | rfl | assumption) (QT.cs_length _ _) rfl rfl rfl ?_
              refine JL.q rfl rfl rfl (QW.assign (.tmp rfl)) ?_
              refine JL.q rfl rfl rfl (QW.assign (.tmp rfl)) ?_
              refine JL.q rfl rfl rfl (QW.assign (.tmp rfl)) ?_
              refine JL.nil ?_
              refine thenQ.n ?_
              refine J.seq ?_
              refine J.seq ?_
              refine J.region_lit ?_
              refine JL.q rfl rfl rfl (QW.move (.tmp rfl)) ?_
              refine JL.q rfl rfl rfl (QW.call gofn40 (.cons (.tmp rfl) .nil) (num18_ok _)) ?_
              refine JL.q rfl rfl rfl (QW.neq (.tmp rfl) .const) ?_
              refine JL.q rfl rfl rfl (QW.move (.tmp rfl)) ?_
              refine JL.g rfl rfl rfl rfl rfl (fun hg => (QW.move (.tmp rfl))) ?_
              refine JL.g rfl rfl rfl rfl rfl (fun hg => (by first | exact QW.len_slE sl56 (.when rfl hg) (EvT.css_length _ _) | exact QW.len_sl sl56 (.when rfl hg) | exact QW.len_nil sl56 (.when rfl hg))) ?_
              refine JL.g rfl rfl rfl rfl rfl (fun hg => (QW.move (.tmp rfl))) ?_
              refine JL.g rfl rfl rfl rfl rfl (fun hg => (QW.move (.tmp rfl))) ?_
              refine JL.g rfl rfl rfl rfl rfl (fun hg => (QW.len_arr 2 sl56 (.when rfl hg) rfl)) ?_
              refine JL.g rfl rfl rfl rfl rfl (fun hg => (QW.move (.tmp rfl))) ?_
              refine JL.g rfl rfl rfl rfl rfl (fun hg => (QW.len_arr 3 sl56 (.when rfl hg) rfl)) ?_
              refine JL.g rfl rfl rfl rfl rfl (fun hg => (QW.sub (.when rfl hg) (.when rfl hg) (by first | exact w64n (by first | rfl | omega | (simp; done)) (by omega) | exact w64 (by omega) | exact w64 (by simp only [EvT.css_length, List.length_take, List.length_append]; omega) | rfl))) ?_
              refine JL.g rfl rfl rfl rfl rfl (fun hg => (QW.min2 (.when rfl hg) (.when rfl hg))) ?_
              refine JL.g rfl rfl rfl rfl rfl (fun hg => (QW.neq (.when rfl hg) (.when rfl hg))) ?_
              refine JL.q rfl rfl rfl (QW.pick_or (.tmp rfl) (.tmp rfl)) ?_
              refine JL.q rfl rfl rfl (QW.move (.tmp rfl)) ?_
              refine JL.g rfl rfl rfl rfl rfl (fun hg => (QW.move (.tmp rfl))) ?_
              refine JL.g rfl rfl rfl rfl rfl (fun hg => (by first | exact QW.len_slE sl56 (.when rfl hg) (EvT.css_length _ _) | exact QW.len_sl sl56 (.when rfl hg) | exact QW.len_nil sl56 (.when rfl hg))) ?_
              refine JL.g rfl rfl rfl rfl rfl (fun hg => (QW.gtr (.when rfl hg) .const)) ?_
              refine JL.g rfl rfl rfl rfl rfl (fun hg => (QW.move (.when rfl hg))) ?_
              refine JL.gg rfl rfl rfl rfl rfl (fun hg => (QW.move (.tmp rfl))) ?_
              refine JL.gg rfl rfl rfl rfl rfl (fun hg => (QW.move (.tmp rfl))) ?_
              refine JL.gg rfl rfl rfl rfl rfl (fun hg => (QW.len_arr 3 sl56 (.when rfl hg) rfl)) ?_
              refine JL.gg rfl rfl rfl rfl rfl (fun hg => (QW.add (.when rfl hg) .const (by first | exact w64n (by first | rfl | omega | (simp; done)) (by omega) | exact w64 (by omega) | exact w64 (by simp only [EvT.css_length, List.length_take, List.length_append]; omega) | rfl))) ?_
              refine JL.gg rfl rfl rfl rfl rfl (fun hg => (QW.neq (.when rfl hg) (.when rfl hg))) ?_
              refine JL.g rfl rfl rfl rfl rfl (fun hg => (by first | exact QW.pick_and (.when rfl hg) (.tmp rfl) | exact QW.pick_and2 hg (.when rfl hg) (.tmp rfl))) ?_
              refine JL.q rfl rfl rfl (QW.pick_or (.tmp rfl) (.tmp rfl)) ?_
              refine JL.q rfl rfl rfl (QW.move (.tmp rfl)) ?_
              refine JL.g rfl rfl rfl rfl rfl (fun hg => (QW.move (.tmp rfl))) ?_
              refine JL.g rfl rfl rfl rfl rfl (fun hg => (by first | exact QW.len_slE sl56 (.when rfl hg) (EvT.css_length _ _) | exact QW.len_sl sl56 (.when rfl hg) | exact QW.len_nil sl56 (.when rfl hg))) ?_
              refine JL.g rfl rfl rfl rfl rfl (fun hg => (QW.eql (.when rfl hg) .const)) ?_
              refine JL.g rfl rfl rfl rfl rfl (fun hg => (QW.move (.when rfl hg))) ?_
              refine JL.gg rfl rfl rfl rfl rfl (fun hg => (QW.move (.tmp rfl))) ?_
              refine JL.gg rfl rfl rfl rfl rfl (fun hg => (QW.neq (.when rfl hg) .const)) ?_
              refine JL.g rfl rfl rfl rfl rfl (fun hg => (by first | exact QW.pick_and (.when rfl hg) (.tmp rfl) | exact QW.pick_and2 hg (.when rfl hg) (.tmp rfl))) ?_
              refine JL.q rfl rfl rfl (QW.pick_or (.tmp rfl) (.tmp rfl)) ?_
              refine JL.nil ?_
              refine thenQ.n ?_
              refine J.cond (.tmp rfl) (fun c7 => ?_) (fun c7 => ?_)
              · skip
                exfalso
                have hk3 := hA3.hk
                have e1 : ((I2.drop k).take m3).length = m3 := by (simp; omega)
                have e2 : (EvT.css true (I2.take k)).length = k := by (rw [EvT.css_length]; simp; omega)
                rw [e1, e2, EvT.css_length] at c7
                by_cases hm0 : 0 < m3
                · simp [hm0] at c7
                  split at c7 <;> omega
                · simp [hm0] at c7
                  split at c7 <;> omega
                --closed
              · skip
                refine J.skip ?_
                refine thenQ.n ?_
                refine J.seq ?_
                refine J.region_lit ?_
                refine JL.q rfl rfl rfl (by first | exact QW.load_box 0 ty58 (.tmp rfl) rfl rfl rfl | exact QW.load_box 0 ty58 (.tmp rfl) rfl (take_at (QT.cs_length _ _) rfl) (QT.cs_length _ _)) ?_
                first | refine JL.store_boxF 1 ty58 (.tmp rfl) rfl (.tmp rfl) (by first | rfl | assumption) (rfl) (rfl) rfl ?_ | refine JL.store_boxF 1 ty58 (.tmp rfl) rfl (.tmp rfl) (by first | rfl | assumption) (rfl) (QT.cs_length _ _) rfl ?_ | refine JL.store_boxF 1 ty58 (.tmp rfl) rfl (.tmp rfl) (by first | rfl | assumption) (QT.cs_length _ _) (rfl) rfl ?_ | refine JL.store_boxF 1 ty58 (.tmp rfl) rfl (.tmp rfl) (by first | rfl | assumption) (QT.cs_length _ _) (QT.cs_length _ _) rfl ?_ | refine JL.store_box 1 ty58 (.tmp rfl) rfl (.tmp rfl) (by first | rfl | assumption) rfl rfl rfl rfl ?_ | refine JL.store_box 1 ty58 (.tmp rfl) rfl (.tmp rfl) (by first | rfl | assumption) (QT.cs_length _ _) rfl rfl rfl ?_
                refine JL.nil ?_
                refine thenQ.n ?_
                refine J.region_lit ?_
                refine JL.q rfl rfl rfl (QW.move (.tmp rfl)) ?_
                refine JL.q rfl rfl rfl (QW.move (.tmp rfl)) ?_
                refine JL.append 3 sl56 el70 rfl (.tmp rfl) rfl (srcA_sl sl56 (.tmp rfl)) (by rw [EvT.css_length, EvT.css_length]; simp; unfold reach; omega) rfl fun v146 => ?_
                refine JL.q rfl rfl rfl (QW.assign (.tmp rfl)) ?_
                refine JL.nil ?_
                refine blkQ.n ?_
                refine thenQ.n ?_
                refine J.region_lit ?_
                refine JL.q rfl rfl rfl (QW.move (.tmp rfl)) ?_
                refine JL.q rfl rfl rfl (QW.add (.tmp rfl) .const (by first | exact w64n (by first | rfl | omega | (simp; done)) (by omega) | exact w64 (by omega) | exact w64 (by simp only [EvT.css_length, List.length_take, List.length_append]; omega) | rfl)) ?_
                refine JL.q rfl rfl rfl (QW.assign (.tmp rfl)) ?_
                refine JL.nil ?_
                refine thenQ.n ?_
                exact ⟨⟨j + 1, I2, k + m3, vi, v146⟩, ⟨by omega, hA3⟩, by show 40 - (j + 1) < 40 - j; omega, Wk.re (.cons rfl (.refl _) (.cons rfl (.refl _) (.cons rfl (.refl _) (.cons rfl (.refl _) (.cons rfl (.refl _) (.cons rfl (.refl _) (.cons rfl (.refl _) .nil))))))) ((Reown.mask [.k, .p, .p, .p] _ rfl).trans (Reown.ofEq (by show [_, _, _] = [_, _, _]; congr 3; rw [← EvT.css_append, List.take_add]; rfl))) (fun _ h => by first | exact h | simp [h])⟩
      · skip
        skip
        refine J.exit ?_
        refine thenQ.x ?_
        refine thenQ.x ?_
        refine blkQ.hit ?_
        refine thenQ.n ?_
        refine J.seq ?_
        obtain ⟨m4, hm4, g4, hA4⟩ := hA.take 100 (by decide)
        have hall : EvT.css true (I.take k) ++ EvT.css true ((I.drop k).take m4) = EvT.css true I := by (rw [← EvT.css_append, ← List.take_add, List.take_of_length_le (by have := hA.hk; have := hA.hn; omega)])
        refine J.region_lit ?_
        refine JL.q rfl rfl rfl (by first | exact QW.load_box 0 ty58 (.tmp rfl) rfl rfl rfl | exact QW.load_box 0 ty58 (.tmp rfl) rfl (take_at (QT.cs_length _ _) rfl) (QT.cs_length _ _)) ?_
        refine JL.q rfl rfl rfl (QW.call gofn43 (.cons (.tmp rfl) (.cons .const .nil)) (takeAt hA g4)) ?_
        refine JL.q rfl rfl rfl (QW.move (.tmp rfl)) ?_
        refine JL.q rfl rfl rfl (QW.extract (.tmp rfl) rfl) ?_
        refine JL.q rfl rfl rfl (QW.extract (.tmp rfl) rfl) ?_
        refine JL.q rfl rfl rfl (QW.extract (.tmp rfl) rfl) ?_
        refine JL.q rfl rfl rfl (QW.extract (.tmp rfl) rfl) ?_
        refine JL.alloc z58 rfl rfl fun b20 => ?_
        first | refine JL.store_boxF 0 ty58 (.tmp rfl) rfl (.tmp rfl) (by first | rfl | assumption) (rfl) (rfl) rfl ?_ | refine JL.store_boxF 0 ty58 (.tmp rfl) rfl (.tmp rfl) (by first | rfl | assumption) (rfl) (QT.cs_length _ _) rfl ?_ | refine JL.store_boxF 0 ty58 (.tmp rfl) rfl (.tmp rfl) (by first | rfl | assumption) (QT.cs_length _ _) (rfl) rfl ?_ | refine JL.store_boxF 0 ty58 (.tmp rfl) rfl (.tmp rfl) (by first | rfl | assumption) (QT.cs_length _ _) (QT.cs_length _ _) rfl ?_ | refine JL.store_box 0 ty58 (.tmp rfl) rfl (.tmp rfl) (by first | rfl | assumption) rfl rfl rfl rfl ?_ | refine JL.store_box 0 ty58 (.tmp rfl) rfl (.tmp rfl) (by first | rfl | assumption) (QT.cs_length _ _) rfl rfl rfl ?_
        refine JL.q rfl rfl rfl (QW.assign (.tmp rfl)) ?_
        refine JL.q rfl rfl rfl (QW.assign (.tmp rfl)) ?_
        refine JL.q rfl rfl rfl (QW.assign (.tmp rfl)) ?_
        refine JL.nil ?_
        refine thenQ.n ?_
        refine J.seq ?_
        refine J.region_lit ?_
        refine JL.q rfl rfl rfl (QW.move (.tmp rfl)) ?_
        refine JL.q rfl rfl rfl (QW.move (.tmp rfl)) ?_
        refine JL.append 3 sl56 el70 rfl (.tmp rfl) rfl (srcA_sl sl56 (.tmp rfl)) (by rw [EvT.css_length, EvT.css_length]; simp; unfold reach; omega) rfl fun v156 => ?_
        refine JL.q rfl rfl rfl (QW.assign (.tmp rfl)) ?_
        refine JL.nil ?_
        refine thenQ.n ?_
        refine J.seq ?_
        refine J.region_lit ?_
        refine JL.q rfl rfl rfl (QW.move (.tmp rfl)) ?_
        refine JL.q rfl rfl rfl (QW.call gofn40 (.cons (.tmp rfl) .nil) (num18_ok _)) ?_
        refine JL.q rfl rfl rfl (QW.eql (.tmp rfl) .const) ?_
        refine JL.q rfl rfl rfl (QW.move (.tmp rfl)) ?_
        refine JL.g rfl rfl rfl rfl rfl (fun hg => (QW.move (.tmp rfl))) ?_
        refine JL.g rfl rfl rfl rfl rfl (fun hg => (QW.move (.tmp rfl))) ?_
        refine JL.g rfl rfl rfl rfl rfl (fun hg => (QW.callLF [.k, .k, .l, .l] gofn44 (Lent.cons (Lent.arr (by rw [EvT.css_length]; exact hA.wf.1)) (Lent.cons (Lent.arr (by rw [List.length_append, EvT.css_length, EvT.css_length]; have := hA.wf.1; simp; omega)) Lent.nil)) rfl rfl (fun _ => (.cons (Ev.le (.when rfl hg) (.fact (by simp) (.refl _))) (.cons (Ev.le (.when rfl hg) (.fact (.tail _ (.head _)) (by rw [hall]; exact .slL id (by simp [EvT.css]) (EvT.css_sz false _) (EvT.css_le true false (fun h => by cases h) _)))) .nil))) (sameEvents_ok (fr := false) (fr2 := false) (c := false) (c2 := false) hA.wf hA.wf) (Fl.c _))) ?_
        refine JL.q rfl rfl rfl (QW.pick_and (.tmp rfl) (.tmp rfl)) ?_
        refine JL.q rfl rfl rfl (QW.assign (.tmp rfl)) ?_
        refine JL.nil ?_
        refine thenQ.n ?_
        refine J.ret ?_
        exact ⟨_, selP [.k, .k, .k, .k] _, _, RetEv.one rfl (REv.tmp rfl (.refl _)), rfl, sel_perm [.k, .k, .k, .k] _, ⟨ret_b (by simp), rfl⟩⟩

end Go.Proofs.Ytkiankpmkglhcaa.J
