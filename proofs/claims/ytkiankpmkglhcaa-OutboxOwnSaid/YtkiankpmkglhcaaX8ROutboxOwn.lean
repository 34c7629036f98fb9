/- Texts of this proof, laid together. -/
import Derived.Test.YtkiankpmkglhcaaX7ROutboxOwn
/- Walks: QueueOrder. -/
namespace Go.Proofs.Ytkiankpmkglhcaa.J
open Go Go.RowKit
set_option linter.unusedVariables false
set_option linter.unusedSimpArgs false
set_option maxRecDepth 10000
set_option maxHeartbeats 4000000

def eI64 : ETy := ⟨1, 8⟩
def intsAV (l : List Int) : List (List AV) := l.map fun n => [.c (.int .i64 n)]
theorem intsAV_length (l : List Int) : (intsAV l).length = l.length := by simp [intsAV]
theorem intsAV_getE {l : List Int} {i : Nat} (h : i < l.length) : (intsAV l)[i]? = some [.c (.int .i64 l[i])] := by simp [intsAV, h]
theorem Reown.mask (ms : List Cd) (own : List Own) {own' : List Own} (h : selP ms own = own') : Reown own own' := by
  subst h
  exact (Reown.perm ((sel_perm ms own).trans List.perm_append_comm)).trans (Reown.drop _ _)
theorem tmod_b (n : Int) (k : Nat) (hk : 0 < k) : -(k : Int) < n.tmod k ∧ n.tmod k < k := by
  have h1 := Nat.mod_lt n.natAbs hk
  cases n with
  | ofNat m =>
    have : Int.tmod (Int.ofNat m) (k : Int) = ((m % k : Nat) : Int) := rfl
    rw [this]
    have := Nat.mod_lt m hk
    omega
  | negSucc m =>
    have : Int.tmod (Int.negSucc m) (k : Int) = -(((m + 1) % k : Nat) : Int) := rfl
    rw [this]
    have := Nat.mod_lt (m + 1) hk
    omega
theorem tmod_nn {n : Int} (k : Nat) (h : 0 ≤ n) : 0 ≤ n.tmod k := by
  obtain ⟨m, rfl⟩ := Int.eq_ofNat_of_zero_le h
  exact Int.natCast_nonneg (m % k)
/-- What waits behind k of the events I that were pushed. -/
def QT.at (lim : Int) (I : List EvT) (k : Nat) : QT := ⟨lim, (I.length : Int), I.drop k⟩
mutual
theorem V.chk_rng : ∀ (v : V) (lev n : Int), (v.chk lev n).1 = 0 ∨ (v.chk lev n).1 = 3 ∨ (v.chk lev n).1 = 9 ∨ (v.chk lev n).1 = 10
  | .mk k b t ks is, lev, n => by
    unfold V.chk
    split
    · simp
    · split
      · simp
      · split
        · simp
        · exact V.chks_rng is lev (n + 1)
theorem V.chks_rng : ∀ (l : List V) (lev n : Int), (V.chks l lev n).1 = 0 ∨ (V.chks l lev n).1 = 3 ∨ (V.chks l lev n).1 = 9 ∨ (V.chks l lev n).1 = 10
  | [], lev, n => by simp [V.chks]
  | x :: r, lev, n => by
    unfold V.chks
    split
    · exact V.chk_rng x _ _
    · exact V.chks_rng r _ _
end
theorem V.err_rng (v : V) : v.err = 0 ∨ v.err = 3 ∨ v.err = 9 ∨ v.err = 10 := V.chk_rng v 1 0
theorem evErr_rng (e : EvT) : evErr e = 0 ∨ evErr e = 3 ∨ evErr e = 9 ∨ evErr e = 10 ∨ evErr e = 31 := by
  unfold evErr
  split
  · have := V.err_rng e.arg; omega
  · simp
structure QAt (lim : Int) (I : List EvT) (k n : Nat) : Prop where
  hk : k ≤ I.length
  hn : I.length ≤ n
  ok : (QT.at lim I k).ok = true
  wf : EvT.wfs I
theorem QAt.qwf {lim : Int} {I : List EvT} {k n : Nat} (h : QAt lim I k n) : (QT.at lim I k).wf := by
  obtain ⟨h1, h2, h3, h4, h5, _⟩ := QT.ok_inv h.ok
  exact ⟨by omega, by omega, h.wf.drop _⟩
theorem QAt.start {lim : Int} (h : 1 ≤ lim ∧ lim ≤ 9) : QAt lim [] 0 0 := ⟨by simp, by simp, by unfold QT.at QT.ok; simp; omega, EvT.wfs_nil⟩
theorem qnew_at {lim : Int} (h : 1 ≤ lim ∧ lim ≤ 9) : Fn Try.prog 37 [.c (.int .i64 lim)] (.tup [(QT.at lim [] 0).av, .c (.int .i64 0)]) := by
  have := qnew (n := lim)
  rwa [show QT.new lim = QT.at lim [] 0 by unfold QT.new QT.at; rw [if_neg (by omega)]; rfl, show newErr lim = 0 by unfold newErr; rw [if_neg (by omega)]] at this
theorem QAt.push {lim : Int} {I : List EvT} {k n : Nat} {e : EvT} (h : QAt lim I k n) (he : e.wf) (hn : n < 40) : ∃ q m f, (QT.at lim I k).push e = (q, m, f) ∧ (f = 0 → q = QT.at lim (I ++ [e]) k ∧ m = (I.length : Int) + 1 ∧ QAt lim (I ++ [e]) k (n + 1)) ∧ (f = 51 → (I.length : Int) - k = lim) := by
  obtain ⟨h1, h2, h3, h4, h5, h6⟩ := QT.ok_inv h.ok
  have hh := h.hk
  have hh2 := h.hn
  have hok := h.ok
  simp only [QT.at, List.length_drop] at h1 h2 h3 h4 h5 h6
  by_cases he0 : evErr e = 0
  · by_cases hfl : ((QT.at lim I k).events.length : Int) = (QT.at lim I k).limit ∨ (QT.at lim I k).last = 1099511627776
    · refine ⟨.nil, 0, 51, by unfold QT.push; rw [if_neg (by simp [hok]), if_neg (by simp [he0]), if_pos hfl], (fun hf => absurd hf (by decide)), fun _ => ?_⟩
      simp only [QT.at, List.length_drop] at hfl
      omega
    · have hq : (⟨(QT.at lim I k).limit, (QT.at lim I k).last + 1, (QT.at lim I k).events ++ [e]⟩ : QT) = QT.at lim (I ++ [e]) k := by
        unfold QT.at
        rw [List.drop_append_of_le_length hh]
        simp
      refine ⟨⟨(QT.at lim I k).limit, (QT.at lim I k).last + 1, (QT.at lim I k).events ++ [e]⟩, (QT.at lim I k).last + 1, 0, by unfold QT.push; rw [if_neg (by simp [hok]), if_neg (by simp [he0]), if_neg hfl], (fun _ => ⟨hq, rfl, ⟨by simp; omega, by simp; omega, ?_, h.wf.snoc he (by omega)⟩⟩), fun hf => absurd hf (by decide)⟩
      rw [← hq]
      simp only [QT.at, List.length_drop] at hfl
      unfold QT.ok QT.at
      simp only [List.length_append, List.length_drop, List.length_singleton, List.all_append, h6, List.all_cons, List.all_nil, Bool.and_true, Bool.true_and, evOk_iff, Bool.and_eq_true, decide_eq_true_eq]
      refine ⟨⟨⟨⟨⟨h1, h2⟩, ?_⟩, ?_⟩, ?_⟩, by rw [he0]; rfl⟩
      · push_cast; omega
      · push_cast; omega
      · omega
  · refine ⟨.nil, 0, evErr e, by unfold QT.push; rw [if_neg (by simp [hok]), if_pos he0], (fun hf => absurd hf he0), fun hf => ?_⟩
    have := evErr_rng e
    omega
theorem QAt.take {lim : Int} {I : List EvT} {k n : Nat} (h : QAt lim I k n) (c : Int) (hc : 0 ≤ c) : ∃ m : Nat, (m : Int) = min c ((I.length : Int) - k) ∧ (QT.at lim I k).take c = (QT.at lim I (k + m), (I.drop k).take m, (if 0 < m then (k : Int) + 1 else 0), 0) ∧ QAt lim I (k + m) n := by
  obtain ⟨h1, h2, h3, h4, h5, h6⟩ := QT.ok_inv h.ok
  have hh := h.hk
  have hh2 := h.hn
  have hcut : (QT.cut (QT.at lim I k) c : Int) = min c ((I.length : Int) - k) := by unfold QT.cut QT.at; simp only [List.length_drop]; omega
  refine ⟨QT.cut (QT.at lim I k) c, hcut, ?_, ?_⟩
  · generalize hm : QT.cut (QT.at lim I k) c = m at *
    unfold QT.take
    rw [if_neg (by simp [h.ok]), if_neg (by omega), hm]
    unfold QT.at
    simp only [List.drop_drop, List.length_drop, Prod.mk.injEq, true_and, and_true]
    split
    · omega
    · rfl
  · generalize hm : QT.cut (QT.at lim I k) c = m at *
    simp only [QT.at, List.length_drop] at h1 h2 h3 h4 h5 h6
    refine ⟨by omega, hh2, ?_, h.wf⟩
    unfold QT.ok QT.at
    simp only [List.length_drop, Bool.and_eq_true, decide_eq_true_eq]
    refine ⟨⟨⟨⟨⟨h1, h2⟩, by omega⟩, by omega⟩, by omega⟩, ?_⟩
    rw [List.all_eq_true] at h6 ⊢
    intro x hx
    rw [← List.drop_drop] at hx
    exact h6 x (List.mem_of_mem_drop hx)
theorem takeAt {lim : Int} {I : List EvT} {k m n : Nat} {c : Int} (h : QAt lim I k n) (g : (QT.at lim I k).take c = (QT.at lim I (k + m), (I.drop k).take m, (if 0 < m then (k : Int) + 1 else 0), 0)) :
    Fn Try.prog 43 [.agg ((QT.at lim I k).cs true), .c (.int .i64 c)] (.tup [(QT.at lim I (k + m)).av, evsAV ((I.drop k).take m), .c (.int .i64 (if 0 < m then (k : Int) + 1 else 0)), .c (.int .i64 0)]) := by
  have := qtake_ok (fr := true) (q := QT.at lim I k) Qc.self c h.qwf
  rwa [takeAV_of g] at this
theorem pushAt {lim : Int} {I : List EvT} {k n : Nat} {e : EvT} {q : QT} {m f : Int} (h : QAt lim I k n) (he : e.wf) (g : (QT.at lim I k).push e = (q, m, f)) :
    Fn Try.prog 42 [.agg ((QT.at lim I k).cs true), .agg (e.cs false)] (.tup [q.av, .c (.int .i64 m), .c (.int .i64 f)]) := by
  have := qpush_ok (fr := true) (fr2 := false) (q := QT.at lim I k) (e := e) Qc.self Ec.self h.qwf he
  rwa [pushAV_of g] at this

theorem queueOrder_ok {n : Int} {es : List EvT} {ts : List Int} (hn : -9223372036854775808 ≤ n ∧ n ≤ 9223372036854775807) (hev : EvT.wfs es) (hts : ts.length * 8 ≤ reach) (htr : ∀ t ∈ ts, -9223372036854775808 ≤ t ∧ t ≤ 9223372036854775807) : Fn Try.prog 10 [.c (.int .i64 n), .sl false false eEv (EvT.css false es), .sl false false eI64 (intsAV ts)] (.c (.bool true)) := by
  have hel := hev.len
  have htl : ts.length ≤ 17592186044416 := by unfold reach at hts; omega
  have t1 := tmod_b n 9 (by decide)
  have t2 := tmod_nn (n := n.tmod 9 + 9) 9 (by simp only [Int.cast_ofNat_Int] at t1; omega)
  have t3 := tmod_b (n.tmod 9 + 9) 9 (by decide)
  simp only [Int.cast_ofNat_Int] at t1 t2 t3
  refine AC.of_J Try.func10 rfl Try.ntmps10 rfl fun w0 A0 => ?_
  refine J.seq ?_
  refine J.region_lit ?_
  refine JL.q rfl rfl rfl (QW.assign .const) ?_
  refine JL.nil ?_
  refine thenQ.n ?_
  refine J.seq ?_
  refine J.seq ?_
  refine J.region_lit ?_
  refine JL.q rfl rfl rfl (QW.call gofn41 .nil (alive18_ok)) ?_
  refine JL.q rfl rfl rfl (QW.not (.tmp rfl)) ?_
  refine JL.nil ?_
  refine thenQ.n ?_
  refine J.cond (.tmp rfl) (fun c1 => ?_) (fun c1 => ?_)
  · skip
    exact absurd c1 (by simp)
    --closed
  · skip
    skip
    refine J.skip ?_
    refine thenQ.n ?_
    refine J.seq ?_
    refine J.region_lit ?_
    refine JL.q rfl rfl rfl (QW.move (.tmp rfl)) ?_
    refine JL.q rfl rfl rfl (QW.rem (.tmp rfl) .const (by first | decide | omega) rfl) ?_
    refine JL.q rfl rfl rfl (QW.add (.tmp rfl) .const (by first | exact w64n (by first | rfl | omega | (simp; done)) (by omega) | exact w64 (by omega) | exact w64 (by simp only [EvT.css_length, List.length_take, List.length_append]; omega) | rfl)) ?_
    refine JL.q rfl rfl rfl (QW.rem (.tmp rfl) .const (by first | decide | omega) rfl) ?_
    refine JL.q rfl rfl rfl (QW.add .const (.tmp rfl) (by first | exact w64n (by first | rfl | omega | (simp; done)) (by omega) | exact w64 (by omega) | exact w64 (by simp only [EvT.css_length, List.length_take, List.length_append]; omega) | rfl)) ?_
    refine JL.q rfl rfl rfl (QW.assign (.tmp rfl)) ?_
    refine JL.nil ?_
    refine thenQ.n ?_
    refine J.seq ?_
    generalize hlm : 1 + ((n.tmod 9 + 9).tmod 9) = lim
    have hlm1 : 1 ≤ lim ∧ lim ≤ 9 := by omega
    refine J.region_lit ?_
    refine JL.q rfl rfl rfl (QW.move (.tmp rfl)) ?_
    refine JL.q rfl rfl rfl (QW.call gofn37 (.cons (.tmp rfl) .nil) (qnew_at hlm1)) ?_
    refine JL.q rfl rfl rfl (QW.move (.tmp rfl)) ?_
    refine JL.q rfl rfl rfl (QW.extract (.tmp rfl) rfl) ?_
    refine JL.q rfl rfl rfl (QW.extract (.tmp rfl) rfl) ?_
    refine JL.alloc z58 rfl rfl fun b7 => ?_
    first | refine JL.store_boxF 0 ty58 (.tmp rfl) rfl (.tmp rfl) (by first | rfl | assumption) (rfl) (rfl) rfl ?_ | refine JL.store_boxF 0 ty58 (.tmp rfl) rfl (.tmp rfl) (by first | rfl | assumption) (rfl) (QT.cs_length _ _) rfl ?_ | refine JL.store_boxF 0 ty58 (.tmp rfl) rfl (.tmp rfl) (by first | rfl | assumption) (QT.cs_length _ _) (rfl) rfl ?_ | refine JL.store_boxF 0 ty58 (.tmp rfl) rfl (.tmp rfl) (by first | rfl | assumption) (QT.cs_length _ _) (QT.cs_length _ _) rfl ?_ | refine JL.store_box 0 ty58 (.tmp rfl) rfl (.tmp rfl) (by first | rfl | assumption) rfl rfl rfl rfl ?_ | refine JL.store_box 0 ty58 (.tmp rfl) rfl (.tmp rfl) (by first | rfl | assumption) (QT.cs_length _ _) rfl rfl rfl ?_
    refine JL.q rfl rfl rfl (QW.assign (.tmp rfl)) ?_
    refine JL.nil ?_
    refine thenQ.n ?_
    refine J.seq ?_
    refine J.seq ?_
    refine J.region_lit ?_
    refine JL.q rfl rfl rfl (QW.move (.tmp rfl)) ?_
    refine JL.q rfl rfl rfl (QW.call gofn40 (.cons (.tmp rfl) .nil) (num18_ok _)) ?_
    refine JL.q rfl rfl rfl (QW.neq (.tmp rfl) .const) ?_
    refine JL.nil ?_
    refine thenQ.n ?_
    refine J.cond (.tmp rfl) (fun c2 => ?_) (fun c2 => ?_)
    · skip
      exact absurd c2 (by simp)
      --closed
    · skip
      skip
      refine J.skip ?_
      refine thenQ.n ?_
      refine J.seq ?_
      refine J.region_lit ?_
      refine JL.q rfl rfl rfl (QW.assign .const) ?_
      refine JL.q rfl rfl rfl (QW.assign .const) ?_
      refine JL.nil ?_
      refine thenQ.n ?_
      refine J.seq ?_
      refine J.seq ?_
      refine J.region_lit ?_
      refine JL.q rfl rfl rfl (QW.assign .const) ?_
      refine JL.nil ?_
      refine thenQ.n ?_
      refine J.block ?_
      refine J.reown (Reown.nilArrE eEv _) ?_
      refine J.reown (Reown.nilArrE eEv _) ?_
      refine J.loopK (ι := Nat × List EvT × Nat × Value × Value) [0, 1, 2, 7] (fun ⟨j, I, k, vi, vo⟩ => [(11, .c (.int .i64 (j : Int))), (9, .c vi), (10, .c vo)]) (fun ⟨j, I, k, vi, vo⟩ oo => List.set (List.set (List.set oo 0 (.box b7 ((QT.at lim I k).cs true))) 1 (.arr vi eEv (EvT.css false I))) 2 (.arr vo eEv (EvT.css true (I.take k)))) (fun ⟨j, I, k, vi, vo⟩ => j ≤ 40 ∧ QAt lim I k j) (fun ⟨j, I, k, vi, vo⟩ => 40 - j) ⟨0, [], 0, .slice none 0 0, .slice none 0 0⟩ (⟨by decide, .start hlm1⟩) (Wk.re (.cons rfl (.refl _) (.cons rfl (.refl _) (.cons rfl (.refl _) (.cons rfl (.refl _) (.cons rfl (.refl _) (.cons rfl (.refl _) (.cons rfl (.refl _) .nil))))))) (Reown.refl _) (fun _ h => by first | exact h | simp [h])) ?_
      intro ⟨j, I, k, vi, vo⟩ ⟨hj, hA⟩
      refine J.conv (by (try simp only [stepsO, List.map_cons, List.map_nil, valO, nthO, curO, mrg, List.reverse_cons, List.reverse_nil, List.nil_append, List.cons_append, List.append_nil, List.getElem?_cons_zero, List.getElem?_cons_succ, Option.map_some, Option.getD_some, List.set_cons_zero, List.set_cons_succ, AV.cellsOf, splice_zero, splice_succ, Nat.zero_add, Nat.reduceAdd]); rfl) ?_
      have hk1 := hA.hk
      have hn1 := hA.hn
      refine J.seq ?_
      refine J.seq ?_
      refine J.region_lit ?_
      refine JL.q rfl rfl rfl (QW.move (.tmp rfl)) ?_
      refine JL.q rfl rfl rfl (QW.move (.tmp rfl)) ?_
      refine JL.q rfl rfl rfl (by first | exact QW.len_slE sl56 (.tmp rfl) (EvT.css_length _ _) | exact QW.len_sl sl56 (.tmp rfl) | exact QW.len_nil sl56 (.tmp rfl)) ?_
      refine JL.q rfl rfl rfl (QW.lss (.tmp rfl) (.tmp rfl)) ?_
      refine JL.q rfl rfl rfl (QW.move (.tmp rfl)) ?_
      refine JL.g rfl rfl rfl rfl rfl (fun hg => (QW.move (.tmp rfl))) ?_
      refine JL.g rfl rfl rfl rfl rfl (fun hg => (QW.lss (.when rfl hg) .const)) ?_
      refine JL.q rfl rfl rfl (QW.pick_and (.tmp rfl) (.tmp rfl)) ?_
      refine JL.nil ?_
      refine thenQ.n ?_
      refine J.cond (.tmp rfl) (fun c3 => ?_) (fun c3 => ?_)
      · skip
        simp [EvT.css_length] at c3
        obtain ⟨hj1, hj2⟩ := c3
        refine J.skip ?_
        refine thenQ.n ?_
        refine J.seq ?_
        refine J.block ?_
        refine J.seq ?_
        obtain ⟨q2, m2, f2, g2, hc1, hc2⟩ := hA.push (hev.2 _ (List.getElem_mem hj1)) (by omega)
        refine J.region_outK 13 2 (fun os_ ow_ x_ o_ => match os_ with | [] => (∃ b_, x_ = .c (.pointer (some ⟨b_, 0, none⟩)) ∧ o_ = ow_ ++ [.box b_ ([.int .i64 0, .int .i64 0, .slice none 0 0].map AV.c)]) | [(x0_, _)] => (∃ b_, x0_ = .c (.pointer (some ⟨b_, 0, none⟩)) ∧ x_ = .c undef ∧ o_ = ow_.set 3 (.box b_ (q2.cs true))) | _ => False) mixed (by kernel_rfl) (by kernel_rfl) (by kernel_rfl) rfl ?_
        refine OutK.quiet [] rfl rfl rfl (fun qs_ qv_ ql_ => by
            rcases qs_ with _ | ⟨⟨y0, p0⟩, qs_⟩
            · skip
              exact (.q rfl (by first | exact QW.load_box 0 ty58 (.tmp rfl) rfl rfl rfl | exact QW.load_box 0 ty58 (.tmp rfl) rfl (take_at (QT.cs_length _ _) rfl) (QT.cs_length _ _)))
            rcases qs_ with _ | ⟨⟨y1, p1⟩, qs_⟩
            · skip
              obtain ⟨hr0, _⟩ := qv_
              obtain ⟨b12, rfl, rfl⟩ := hr0
              exact (.q rfl (by first | exact QW.load_box 0 ty58 (.tmp rfl) rfl rfl rfl | exact QW.load_box 0 ty58 (.tmp rfl) rfl (take_at (QT.cs_length _ _) rfl) (QT.cs_length _ _)))
            rcases qs_ with _ | ⟨⟨y2, p2⟩, qs_⟩
            · skip
              obtain ⟨hr1, hr0, _⟩ := qv_
              obtain ⟨b12, rfl, rfl⟩ := hr0
              obtain ⟨_, ⟨⟩, rfl, rfl⟩ := hr1
              exact (.q rfl (by first | exact QW.load_box 0 ty58 (.tmp rfl) rfl rfl rfl | exact QW.load_box 0 ty58 (.tmp rfl) rfl (take_at (QT.cs_length _ _) rfl) (QT.cs_length _ _)))
            exact absurd ql_ (by simp)) ?_
        refine OutK.quiet [] rfl rfl rfl (fun qs_ qv_ ql_ => (.q rfl (QW.move (.tmp rfl)))) ?_
        refine OutK.quiet [] rfl rfl rfl (fun qs_ qv_ ql_ => (.q rfl (QW.move (.tmp rfl)))) ?_
        refine OutK.quiet [51, 52] rfl rfl rfl (fun qs_ qv_ ql_ => (.q rfl (QW.index_sl sl56 ty70 rfl (.tmp rfl) (.tmp rfl) (by first | rfl | omega | (simp; done)) (by exact EvT.css_getE _ hj1)))) ?_
        refine OutK.quiet [53] rfl rfl rfl (fun qs_ qv_ ql_ => (.q rfl (by first | exact QW.load_ref ty70 (.tmp rfl) rfl rfl | exact QW.load_ref ty70 (.tmp rfl) (take_at0 (EvT.cs_length _ _) rfl) (EvT.cs_length _ _)))) ?_
        refine OutK.quiet [50, 54] rfl rfl rfl (fun qs_ qv_ ql_ => (.q rfl (QW.call gofn42 (.cons (.tmp rfl) (.cons (.tmp rfl) .nil)) (pushAt hA (hev.2 _ (List.getElem_mem hj1)) g2)))) ?_
        refine OutK.quiet [55] rfl rfl rfl (fun qs_ qv_ ql_ => (.q rfl (QW.move (.tmp rfl)))) ?_
        refine OutK.quiet [49] rfl rfl rfl (fun qs_ qv_ ql_ => (.q rfl (QW.extract (.tmp rfl) rfl))) ?_
        refine OutK.quiet [49] rfl rfl rfl (fun qs_ qv_ ql_ => (.q rfl (QW.extract (.tmp rfl) rfl))) ?_
        refine OutK.quiet [49] rfl rfl rfl (fun qs_ qv_ ql_ => (.q rfl (QW.extract (.tmp rfl) rfl))) ?_
        refine OutK.loud [] rfl rfl rfl rfl rfl (fun qs_ qv_ ql_ => by
            obtain rfl : qs_ = [] := List.length_eq_zero_iff.1 ql_
            exact LStepR.alloc (d := 12) z58 rfl) ?_
        refine OutK.store [12, 56] rfl (fun qs_ ow x o h ql_ => by
            obtain ⟨⟨y0, p0⟩, qs_, rfl⟩ : ∃ p t, qs_ = p :: t := by (cases qs_ with | nil => simp at ql_ | cons p t => exact ⟨p, t, rfl⟩)
            obtain rfl : qs_ = [] := List.length_eq_zero_iff.1 (by simpa using ql_)
            exact h.elim fun _ h => h.2.1) rfl rfl rfl (fun qs_ qv_ ql_ => by
            obtain ⟨⟨y0, p0⟩, qs_, rfl⟩ : ∃ p t, qs_ = p :: t := by (cases qs_ with | nil => simp at ql_ | cons p t => exact ⟨p, t, rfl⟩)
            obtain rfl : qs_ = [] := List.length_eq_zero_iff.1 (by simpa using ql_)
            obtain ⟨hr0, _⟩ := qv_
            obtain ⟨b12, rfl, rfl⟩ := hr0
            exact LStep.toR rfl (by first | exact LStep.store_boxF 3 ty58 (.tmp rfl) rfl (.tmp rfl) (by first | rfl | assumption) (rfl) (rfl) rfl | exact LStep.store_boxF 3 ty58 (.tmp rfl) rfl (.tmp rfl) (by first | rfl | assumption) (rfl) (QT.cs_length _ _) rfl | exact LStep.store_boxF 3 ty58 (.tmp rfl) rfl (.tmp rfl) (by first | rfl | assumption) (QT.cs_length _ _) (rfl) rfl | exact LStep.store_boxF 3 ty58 (.tmp rfl) rfl (.tmp rfl) (by first | rfl | assumption) (QT.cs_length _ _) (QT.cs_length _ _) rfl | exact LStep.store_box 3 ty58 (.tmp rfl) rfl (.tmp rfl) (by first | rfl | assumption) rfl rfl rfl rfl | exact LStep.store_box 3 ty58 (.tmp rfl) rfl (.tmp rfl) (by first | rfl | assumption) (QT.cs_length _ _) rfl rfl rfl) ⟨_, rfl, rfl, rfl⟩) ?_
        refine OutK.quiet [57] rfl rfl rfl (fun qs_ qv_ ql_ => (.q rfl (QW.assign (.tmp rfl)))) ?_
        refine .nil fun qs_ qv_ ql_ => ?_
        obtain ⟨⟨y1, p1⟩, qs_, rfl⟩ : ∃ p t, qs_ = p :: t := by (cases qs_ with | nil => simp at ql_ | cons p t => exact ⟨p, t, rfl⟩)
        simp only [List.length_cons, Nat.add_right_cancel_iff] at ql_
        obtain ⟨⟨y0, p0⟩, qs_, rfl⟩ : ∃ p t, qs_ = p :: t := by (cases qs_ with | nil => simp at ql_ | cons p t => exact ⟨p, t, rfl⟩)
        obtain rfl : qs_ = [] := List.length_eq_zero_iff.1 (by simpa using ql_)
        obtain ⟨hr1, hr0, _⟩ := qv_
        obtain ⟨b12, rfl, rfl⟩ := hr0
        obtain ⟨_, ⟨⟩, rfl, rfl⟩ := hr1
        refine JL.conv (by (try simp only [stepsO, List.map_cons, List.map_nil, valO, nthO, curO, mrg, List.reverse_cons, List.reverse_nil, List.nil_append, List.cons_append, List.append_nil, List.getElem?_cons_zero, List.getElem?_cons_succ, Option.map_some, Option.getD_some, List.set_cons_zero, List.set_cons_succ, AV.cellsOf, splice_zero, splice_succ, Nat.zero_add, Nat.reduceAdd]); rfl) ?_
        refine JL.q rfl rfl rfl (QW.assign (.tmp rfl)) ?_
        refine JL.nil ?_
        refine thenQ.n ?_
        refine J.seq ?_
        refine J.block ?_
        refine J.seq ?_
        refine J.region_lit ?_
        refine JL.q rfl rfl rfl (QW.move (.tmp rfl)) ?_
        refine JL.q rfl rfl rfl (QW.call gofn40 (.cons (.tmp rfl) .nil) (num18_ok _)) ?_
        refine JL.q rfl rfl rfl (QW.eql (.tmp rfl) .const) ?_
        refine JL.q rfl rfl rfl (QW.assign (.tmp rfl)) ?_
        refine JL.nil ?_
        refine thenQ.n ?_
        refine J.cond (.tmp rfl) (fun c4 => ?_) (fun c4 => ?_)
        · skip
          simp at c4
          obtain ⟨hq2, hm2, hA2⟩ := hc1 c4
          subst hq2 hm2
          refine J.seq ?_
          refine J.region_lit ?_
          refine JL.q rfl rfl rfl (by first | exact QW.load_box 3 ty58 (.tmp rfl) rfl rfl rfl | exact QW.load_box 3 ty58 (.tmp rfl) rfl (take_at (QT.cs_length _ _) rfl) (QT.cs_length _ _)) ?_
          first | refine JL.store_boxF 0 ty58 (.tmp rfl) rfl (.tmp rfl) (by first | rfl | assumption) (rfl) (rfl) rfl ?_ | refine JL.store_boxF 0 ty58 (.tmp rfl) rfl (.tmp rfl) (by first | rfl | assumption) (rfl) (QT.cs_length _ _) rfl ?_ | refine JL.store_boxF 0 ty58 (.tmp rfl) rfl (.tmp rfl) (by first | rfl | assumption) (QT.cs_length _ _) (rfl) rfl ?_ | refine JL.store_boxF 0 ty58 (.tmp rfl) rfl (.tmp rfl) (by first | rfl | assumption) (QT.cs_length _ _) (QT.cs_length _ _) rfl ?_ | refine JL.store_box 0 ty58 (.tmp rfl) rfl (.tmp rfl) (by first | rfl | assumption) rfl rfl rfl rfl ?_ | refine JL.store_box 0 ty58 (.tmp rfl) rfl (.tmp rfl) (by first | rfl | assumption) (QT.cs_length _ _) rfl rfl rfl ?_
          refine JL.nil ?_
          refine thenQ.n ?_
          refine J.seq ?_
          refine J.region_lit ?_
          refine JL.q rfl rfl rfl (QW.move (.tmp rfl)) ?_
          refine JL.q rfl rfl rfl (QW.move (.tmp rfl)) ?_
          refine JL.q rfl rfl rfl (QW.move (.tmp rfl)) ?_
          refine JL.q rfl rfl rfl (QW.index_sl sl56 ty70 rfl (.tmp rfl) (.tmp rfl) (by first | rfl | omega | (simp; done)) (by exact EvT.css_getE _ hj1)) ?_
          refine JL.q rfl rfl rfl (by first | exact QW.load_ref ty70 (.tmp rfl) rfl rfl | exact QW.load_ref ty70 (.tmp rfl) (take_at0 (EvT.cs_length _ _) rfl) (EvT.cs_length _ _)) ?_
          refine JL.q rfl rfl rfl (QW.buildSlice (idx := [0]) (xs := [EvT.cs false (es[j]'hj1)]) sl56 el70 z70 rfl (.cons (.tmp rfl) .nil) rfl rfl rfl rfl rfl (by exact fill_one (EvT.cs_length _ _)) rfl (all_one (EvT.cs_length _ _)) rfl) ?_
          refine JL.append 1 sl56 el70 rfl (.tmp rfl) rfl (srcA_sl sl56 (.tmp rfl)) (by rw [EvT.css_length]; simp; have := hA.hn; unfold reach; omega) rfl fun v70 => ?_
          refine JL.q rfl rfl rfl (QW.assign (.tmp rfl)) ?_
          refine JL.nil ?_
          refine thenQ.n ?_
          refine J.seq ?_
          refine J.region_lit ?_
          refine JL.q rfl rfl rfl (QW.move (.tmp rfl)) ?_
          refine JL.q rfl rfl rfl (QW.move (.tmp rfl)) ?_
          refine JL.q rfl rfl rfl (QW.len_arr 1 sl56 (.tmp rfl) rfl) ?_
          refine JL.q rfl rfl rfl (QW.neq (.tmp rfl) (.tmp rfl)) ?_
          refine JL.nil ?_
          refine thenQ.n ?_
          refine J.cond (.tmp rfl) (fun c5 => ?_) (fun c5 => ?_)
          · skip
            exact absurd c5 (by simp [EvT.css])
            --closed
          · skip
            obtain ⟨I2, hI2⟩ : ∃ I2, I2 = I ++ [es[j]'hj1] := ⟨_, rfl⟩
            rw [← hI2] at hA2
            have hk2 := hA2.hk
            have hn2 := hA2.hn
            refine J.reown (own' := [.box b7 ((QT.at lim I2 k).cs true), .arr v70 eEv (EvT.css false I2), .arr vo eEv (EvT.css true (I2.take k)), .box b12 ((QT.at lim I2 k).cs true)]) (Reown.ofEq (by rw [hI2, List.take_append_of_le_length hA.hk, EvT.css_append]; rfl)) ?_
            refine J.skip ?_
            refine blkQ.n ?_
            refine thenQ.n ?_
            refine J.seq ?_
            refine J.seq ?_
            refine J.region_lit ?_
            refine JL.q rfl rfl rfl (QW.move (.tmp rfl)) ?_
            refine JL.q rfl rfl rfl (QW.move (.tmp rfl)) ?_
            refine JL.q rfl rfl rfl (by first | exact QW.len_slE sl66 (.tmp rfl) (EvT.css_length _ _) | exact QW.len_sl sl66 (.tmp rfl) | exact QW.len_nil sl66 (.tmp rfl)) ?_
            refine JL.q rfl rfl rfl (QW.geq (.tmp rfl) (.tmp rfl)) ?_
            refine JL.nil ?_
            refine thenQ.n ?_
            refine J.cond (.tmp rfl) (fun c6 => ?_) (fun c6 => ?_)
            · skip
              refine J.exit ?_
              refine thenQ.x ?_
              refine blkQ.hit ?_
              refine thenQ.n ?_
              refine J.region_lit ?_
              refine JL.q rfl rfl rfl (QW.move (.tmp rfl)) ?_
              refine JL.q rfl rfl rfl (QW.add (.tmp rfl) .const (by first | exact w64n (by first | rfl | omega | (simp; done)) (by omega) | exact w64 (by omega) | exact w64 (by simp only [EvT.css_length, List.length_take, List.length_append]; omega) | rfl)) ?_
              refine JL.q rfl rfl rfl (QW.assign (.tmp rfl)) ?_
              refine JL.nil ?_
              refine thenQ.n ?_
              exact ⟨⟨j + 1, I2, k, v70, vo⟩, ⟨by omega, hA2⟩, by show 40 - (j + 1) < 40 - j; omega, Wk.re (.cons rfl (.refl _) (.cons rfl (.refl _) (.cons rfl (.refl _) (.cons rfl (.refl _) (.cons rfl (.refl _) (.cons rfl (.refl _) (.cons rfl (.refl _) .nil))))))) (Reown.mask [.p, .p, .p] _ rfl) (fun _ h => by first | exact h | simp [h])⟩
            · skip
              have hj3 : j < ts.length := by simp [intsAV_length] at c6; omega
              refine J.skip ?_
              refine thenQ.n ?_
              refine J.seq ?_
              have u1 := tmod_b (ts[j]'hj3) 4 (by decide)
              have u2 := tmod_nn (n := (ts[j]'hj3).tmod 4 + 4) 4 (by simp only [Int.cast_ofNat_Int] at u1; omega)
              have u3 := tmod_b ((ts[j]'hj3).tmod 4 + 4) 4 (by decide)
              simp only [Int.cast_ofNat_Int] at u1 u2 u3
              refine J.region_lit ?_
              refine JL.q rfl rfl rfl (QW.move (.tmp rfl)) ?_
              refine JL.q rfl rfl rfl (QW.move (.tmp rfl)) ?_
              refine JL.q rfl rfl rfl (QW.index_sl sl66 ty3 rfl (.tmp rfl) (.tmp rfl) (by first | rfl | omega | (simp; done)) (by exact intsAV_getE hj3)) ?_
              refine JL.q rfl rfl rfl (QW.load_ref1 ty3 (.tmp rfl) rfl) ?_
              refine JL.q rfl rfl rfl (QW.rem (.tmp rfl) .const (by first | decide | omega) rfl) ?_
              refine JL.q rfl rfl rfl (QW.add (.tmp rfl) .const (by first | exact w64n (by first | rfl | omega | (simp; done)) (by omega) | exact w64 (by omega) | exact w64 (by simp only [EvT.css_length, List.length_take, List.length_append]; omega) | rfl)) ?_
              refine JL.q rfl rfl rfl (QW.rem (.tmp rfl) .const (by first | decide | omega) rfl) ?_
              refine JL.q rfl rfl rfl (QW.assign (.tmp rfl)) ?_
              refine JL.nil ?_
              refine thenQ.n ?_
              refine J.seq ?_
              generalize hcc : (((ts[j]'hj3).tmod 4 + 4).tmod 4) = cc
              have hcc1 : 0 ≤ cc ∧ cc ≤ 3 := by omega
              obtain ⟨m3, hm3, g3, hA3⟩ := hA2.take cc hcc1.1
              refine J.region_lit ?_
              refine JL.q rfl rfl rfl (by first | exact QW.load_box 0 ty58 (.tmp rfl) rfl rfl rfl | exact QW.load_box 0 ty58 (.tmp rfl) rfl (take_at (QT.cs_length _ _) rfl) (QT.cs_length _ _)) ?_
              refine JL.q rfl rfl rfl (QW.move (.tmp rfl)) ?_
              refine JL.q rfl rfl rfl (QW.call gofn43 (.cons (.tmp rfl) (.cons (.tmp rfl) .nil)) (takeAt hA2 g3)) ?_
              refine JL.q rfl rfl rfl (QW.move (.tmp rfl)) ?_
              refine JL.q rfl rfl rfl (QW.extract (.tmp rfl) rfl) ?_
              refine JL.q rfl rfl rfl (QW.extract (.tmp rfl) rfl) ?_
              refine JL.q rfl rfl rfl (QW.extract (.tmp rfl) rfl) ?_
              refine JL.q rfl rfl rfl (QW.extract (.tmp rfl) rfl) ?_
              refine JL.alloc z58 rfl rfl fun b16 => ?_
              first | refine JL.store_boxF 0 ty58 (.tmp rfl) rfl (.tmp rfl) (by first | rfl | assumption) (rfl) (rfl) rfl ?_ | refine JL.store_boxF 0 ty58 (.tmp rfl) rfl (.tmp rfl) (by first | rfl | assumption) (rfl) (QT.cs_length _ _) rfl ?_ | refine JL.store_boxF 0 ty58 (.tmp rfl) rfl (.tmp rfl) (by first | rfl | assumption) (QT.cs_length _ _) (rfl) rfl ?_ | refine JL.store_boxF 0 ty58 (.tmp rfl) rfl (.tmp rfl) (by first | rfl | assumption) (QT.cs_length _ _) (QT.cs_length _ _) rfl ?_ | refine JL.store_box 0 ty58 (.tmp rfl) rfl (.tmp rfl) (by first | rfl | assumption) rfl rfl rfl rfl ?_ | refine JL.store_box 0 ty58 (.tmp rfl) rfl (.tmp rfl) (by first | rfl | assumption) (QT.cs_length _ _) rfl rfl rfl ?_
              refine JL.q rfl rfl rfl (QW.assign (.tmp rfl)) ?_
              refine JL.q rfl rfl rfl (QW.assign (.tmp rfl)) ?_
              refine JL.q rfl rfl rfl (QW.assign (.tmp rfl)) ?_
              refine JL.nil ?_
              refine thenQ.n ?_
              refine J.seq ?_
              refine J.seq ?_
              refine J.region_lit ?_
              refine JL.q rfl rfl rfl (QW.move (.tmp rfl)) ?_
              refine JL.q rfl rfl rfl (QW.call gofn40 (.cons (.tmp rfl) .nil) (num18_ok _)) ?_
              refine JL.q rfl rfl rfl (QW.neq (.tmp rfl) .const) ?_
              refine JL.q rfl rfl rfl (QW.move (.tmp rfl)) ?_
              refine JL.g rfl rfl rfl rfl rfl (fun hg => (QW.move (.tmp rfl))) ?_
              refine JL.g rfl rfl rfl rfl rfl (fun hg => (by first | exact QW.len_slE sl56 (.when rfl hg) (EvT.css_length _ _) | exact QW.len_sl sl56 (.when rfl hg) | exact QW.len_nil sl56 (.when rfl hg))) ?_
              refine JL.g rfl rfl rfl rfl rfl (fun hg => (QW.move (.tmp rfl))) ?_
              refine JL.g rfl rfl rfl rfl rfl (fun hg => (QW.move (.tmp rfl))) ?_
              refine JL.g rfl rfl rfl rfl rfl (fun hg => (QW.len_arr 2 sl56 (.when rfl hg) rfl)) ?_
              refine JL.g rfl rfl rfl rfl rfl (fun hg => (QW.move (.tmp rfl))) ?_
              refine JL.g rfl rfl rfl rfl rfl (fun hg => (QW.len_arr 3 sl56 (.when rfl hg) rfl)) ?_
              refine JL.g rfl rfl rfl rfl rfl (fun hg => (QW.sub (.when rfl hg) (.when rfl hg) (by first | exact w64n (by first | rfl | omega | (simp; done)) (by omega) | exact w64 (by omega) | exact w64 (by simp only [EvT.css_length, List.length_take, List.length_append]; omega) | rfl))) ?_
              refine JL.g rfl rfl rfl rfl rfl (fun hg => (QW.min2 (.when rfl hg) (.when rfl hg))) ?_
              refine JL.g rfl rfl rfl rfl rfl (fun hg => (QW.neq (.when rfl hg) (.when rfl hg))) ?_
              refine JL.q rfl rfl rfl (QW.pick_or (.tmp rfl) (.tmp rfl)) ?_
              refine JL.q rfl rfl rfl (QW.move (.tmp rfl)) ?_
              refine JL.g rfl rfl rfl rfl rfl (fun hg => (QW.move (.tmp rfl))) ?_
              refine JL.g rfl rfl rfl rfl rfl (fun hg => (by first | exact QW.len_slE sl56 (.when rfl hg) (EvT.css_length _ _) | exact QW.len_sl sl56 (.when rfl hg) | exact QW.len_nil sl56 (.when rfl hg))) ?_
              refine JL.g rfl rfl rfl rfl rfl (fun hg => (QW.gtr (.when rfl hg) .const)) ?_
              refine JL.g rfl rfl rfl rfl rfl (fun hg => (QW.move (.when rfl hg))) ?_
              refine JL.gg rfl rfl rfl rfl rfl (fun hg => (QW.move (.tmp rfl))) ?_
              refine JL.gg rfl rfl rfl rfl rfl (fun hg => (QW.move (.tmp rfl))) ?_
              refine JL.gg rfl rfl rfl rfl rfl (fun hg => (QW.len_arr 3 sl56 (.when rfl hg) rfl)) ?_
              refine JL.gg rfl rfl rfl rfl rfl (fun hg => (QW.add (.when rfl hg) .const (by first | exact w64n (by first | rfl | omega | (simp; done)) (by omega) | exact w64 (by omega) | exact w64 (by simp only [EvT.css_length, List.length_take, List.length_append]; omega) | rfl))) ?_
              refine JL.gg rfl rfl rfl rfl rfl (fun hg => (QW.neq (.when rfl hg) (.when rfl hg))) ?_
              refine JL.g rfl rfl rfl rfl rfl (fun hg => (by first | exact QW.pick_and (.when rfl hg) (.tmp rfl) | exact QW.pick_and2 hg (.when rfl hg) (.tmp rfl))) ?_
              refine JL.q rfl rfl rfl (QW.pick_or (.tmp rfl) (.tmp rfl)) ?_
              refine JL.q rfl rfl rfl (QW.move (.tmp rfl)) ?_
              refine JL.g rfl rfl rfl rfl rfl (fun hg => (QW.move (.tmp rfl))) ?_
              refine JL.g rfl rfl rfl rfl rfl (fun hg => (by first | exact QW.len_slE sl56 (.when rfl hg) (EvT.css_length _ _) | exact QW.len_sl sl56 (.when rfl hg) | exact QW.len_nil sl56 (.when rfl hg))) ?_
              refine JL.g rfl rfl rfl rfl rfl (fun hg => (QW.eql (.when rfl hg) .const)) ?_
              refine JL.g rfl rfl rfl rfl rfl (fun hg => (QW.move (.when rfl hg))) ?_
              refine JL.gg rfl rfl rfl rfl rfl (fun hg => (QW.move (.tmp rfl))) ?_
              refine JL.gg rfl rfl rfl rfl rfl (fun hg => (QW.neq (.when rfl hg) .const)) ?_
              refine JL.g rfl rfl rfl rfl rfl (fun hg => (by first | exact QW.pick_and (.when rfl hg) (.tmp rfl) | exact QW.pick_and2 hg (.when rfl hg) (.tmp rfl))) ?_
              refine JL.q rfl rfl rfl (QW.pick_or (.tmp rfl) (.tmp rfl)) ?_
              refine JL.nil ?_
              refine thenQ.n ?_
              refine J.cond (.tmp rfl) (fun c7 => ?_) (fun c7 => ?_)
              · skip
                exfalso
                have hk3 := hA3.hk
                have e1 : ((I2.drop k).take m3).length = m3 := by (simp; omega)
                have e2 : (EvT.css true (I2.take k)).length = k := by (rw [EvT.css_length]; simp; omega)
                rw [e1, e2, EvT.css_length] at c7
                by_cases hm0 : 0 < m3
                · simp [hm0] at c7
                  split at c7 <;> omega
                · simp [hm0] at c7
                  split at c7 <;> omega
                --closed
              · skip
                refine J.skip ?_
                refine thenQ.n ?_
                refine J.seq ?_
                refine J.region_lit ?_
                refine JL.q rfl rfl rfl (by first | exact QW.load_box 0 ty58 (.tmp rfl) rfl rfl rfl | exact QW.load_box 0 ty58 (.tmp rfl) rfl (take_at (QT.cs_length _ _) rfl) (QT.cs_length _ _)) ?_
                first | refine JL.store_boxF 1 ty58 (.tmp rfl) rfl (.tmp rfl) (by first | rfl | assumption) (rfl) (rfl) rfl ?_ | refine JL.store_boxF 1 ty58 (.tmp rfl) rfl (.tmp rfl) (by first | rfl | assumption) (rfl) (QT.cs_length _ _) rfl ?_ | refine JL.store_boxF 1 ty58 (.tmp rfl) rfl (.tmp rfl) (by first | rfl | assumption) (QT.cs_length _ _) (rfl) rfl ?_ | refine JL.store_boxF 1 ty58 (.tmp rfl) rfl (.tmp rfl) (by first | rfl | assumption) (QT.cs_length _ _) (QT.cs_length _ _) rfl ?_ | refine JL.store_box 1 ty58 (.tmp rfl) rfl (.tmp rfl) (by first | rfl | assumption) rfl rfl rfl rfl ?_ | refine JL.store_box 1 ty58 (.tmp rfl) rfl (.tmp rfl) (by first | rfl | assumption) (QT.cs_length _ _) rfl rfl rfl ?_
                refine JL.nil ?_
                refine thenQ.n ?_
                refine J.region_lit ?_
                refine JL.q rfl rfl rfl (QW.move (.tmp rfl)) ?_
                refine JL.q rfl rfl rfl (QW.move (.tmp rfl)) ?_
                refine JL.append 3 sl56 el70 rfl (.tmp rfl) rfl (srcA_sl sl56 (.tmp rfl)) (by rw [EvT.css_length, EvT.css_length]; simp; unfold reach; omega) rfl fun v146 => ?_
                refine JL.q rfl rfl rfl (QW.assign (.tmp rfl)) ?_
                refine JL.nil ?_
                refine blkQ.n ?_
                refine thenQ.n ?_
                refine J.region_lit ?_
                refine JL.q rfl rfl rfl (QW.move (.tmp rfl)) ?_
                refine JL.q rfl rfl rfl (QW.add (.tmp rfl) .const (by first | exact w64n (by first | rfl | omega | (simp; done)) (by omega) | exact w64 (by omega) | exact w64 (by simp only [EvT.css_length, List.length_take, List.length_append]; omega) | rfl)) ?_
                refine JL.q rfl rfl rfl (QW.assign (.tmp rfl)) ?_
                refine JL.nil ?_
                refine thenQ.n ?_
                exact ⟨⟨j + 1, I2, k + m3, v70, v146⟩, ⟨by omega, hA3⟩, by show 40 - (j + 1) < 40 - j; omega, Wk.re (.cons rfl (.refl _) (.cons rfl (.refl _) (.cons rfl (.refl _) (.cons rfl (.refl _) (.cons rfl (.refl _) (.cons rfl (.refl _) (.cons rfl (.refl _) .nil))))))) ((Reown.mask [.k, .p, .p, .p] _ rfl).trans (Reown.ofEq (by show [_, _, _] = [_, _, _]; congr 3; rw [← EvT.css_append, List.take_add]; rfl))) (fun _ h => by first | exact h | simp [h])⟩
        · skip
          have hA2 : QAt lim I k (j + 1) := ⟨hA.hk, by have := hA.hn; omega, hA.ok, hA.wf⟩
          refine J.seq ?_
          refine J.region_lit ?_
          refine JL.q rfl rfl rfl (QW.move (.tmp rfl)) ?_
          refine JL.q rfl rfl rfl (QW.call gofn40 (.cons (.tmp rfl) .nil) (num18_ok _)) ?_
          refine JL.q rfl rfl rfl (QW.eql (.tmp rfl) .const) ?_
          refine JL.q rfl rfl rfl (QW.move (.tmp rfl)) ?_
          refine JL.g rfl rfl rfl rfl rfl (fun hg => (QW.move (.tmp rfl))) ?_
          refine JL.g rfl rfl rfl rfl rfl (fun hg => (QW.len_arr 1 sl56 (.when rfl hg) rfl)) ?_
          refine JL.g rfl rfl rfl rfl rfl (fun hg => (QW.move (.tmp rfl))) ?_
          refine JL.g rfl rfl rfl rfl rfl (fun hg => (QW.len_arr 2 sl56 (.when rfl hg) rfl)) ?_
          refine JL.g rfl rfl rfl rfl rfl (fun hg => (QW.sub (.when rfl hg) (.when rfl hg) (by first | exact w64n (by first | rfl | omega | (simp; done)) (by omega) | exact w64 (by omega) | exact w64 (by simp only [EvT.css_length, List.length_take, List.length_append]; omega) | rfl))) ?_
          refine JL.g rfl rfl rfl rfl rfl (fun hg => (QW.move (.tmp rfl))) ?_
          refine JL.g rfl rfl rfl rfl rfl (fun hg => (QW.neq (.when rfl hg) (.when rfl hg))) ?_
          refine JL.q rfl rfl rfl (QW.pick_and (.tmp rfl) (.tmp rfl)) ?_
          refine JL.q rfl rfl rfl (QW.assign (.tmp rfl)) ?_
          refine JL.nil ?_
          refine thenQ.n ?_
          refine J.cond (.tmp rfl) (fun c5 => ?_) (fun c5 => ?_)
          · skip
            exfalso
            simp at c5
            have h51 := hc2 c5.1
            have := hA.hk
            have := c5.2
            simp [EvT.css_length] at this
            omega
            --closed
          · skip
            obtain ⟨I2, hI2⟩ : ∃ I2, I2 = I := ⟨_, rfl⟩
            rw [← hI2] at hA2
            have hk2 := hA2.hk
            have hn2 := hA2.hn
            refine J.reown (own' := [.box b7 ((QT.at lim I2 k).cs true), .arr vi eEv (EvT.css false I2), .arr vo eEv (EvT.css true (I2.take k)), .box b12 (q2.cs true)]) (Reown.ofEq (by rw [hI2])) ?_
            refine J.skip ?_
            refine blkQ.n ?_
            refine thenQ.n ?_
            refine J.seq ?_
            refine J.seq ?_
            refine J.region_lit ?_
            refine JL.q rfl rfl rfl (QW.move (.tmp rfl)) ?_
            refine JL.q rfl rfl rfl (QW.move (.tmp rfl)) ?_
            refine JL.q rfl rfl rfl (by first | exact QW.len_slE sl66 (.tmp rfl) (EvT.css_length _ _) | exact QW.len_sl sl66 (.tmp rfl) | exact QW.len_nil sl66 (.tmp rfl)) ?_
            refine JL.q rfl rfl rfl (QW.geq (.tmp rfl) (.tmp rfl)) ?_
            refine JL.nil ?_
            refine thenQ.n ?_
            refine J.cond (.tmp rfl) (fun c6 => ?_) (fun c6 => ?_)
            · skip
              refine J.exit ?_
              refine thenQ.x ?_
              refine blkQ.hit ?_
              refine thenQ.n ?_
              refine J.region_lit ?_
              refine JL.q rfl rfl rfl (QW.move (.tmp rfl)) ?_
              refine JL.q rfl rfl rfl (QW.add (.tmp rfl) .const (by first | exact w64n (by first | rfl | omega | (simp; done)) (by omega) | exact w64 (by omega) | exact w64 (by simp only [EvT.css_length, List.length_take, List.length_append]; omega) | rfl)) ?_
              refine JL.q rfl rfl rfl (QW.assign (.tmp rfl)) ?_
              refine JL.nil ?_
              refine thenQ.n ?_
              exact ⟨⟨j + 1, I2, k, vi, vo⟩, ⟨by omega, hA2⟩, by show 40 - (j + 1) < 40 - j; omega, Wk.re (.cons rfl (.refl _) (.cons rfl (.refl _) (.cons rfl (.refl _) (.cons rfl (.refl _) (.cons rfl (.refl _) (.cons rfl (.refl _) (.cons rfl (.refl _) .nil))))))) (Reown.mask [.p, .p, .p] _ rfl) (fun _ h => by first | exact h | simp [h])⟩
            · skip
              have hj3 : j < ts.length := by simp [intsAV_length] at c6; omega
              refine J.skip ?_
              refine thenQ.n ?_
              refine J.seq ?_
              have u1 := tmod_b (ts[j]'hj3) 4 (by decide)
              have u2 := tmod_nn (n := (ts[j]'hj3).tmod 4 + 4) 4 (by simp only [Int.cast_ofNat_Int] at u1; omega)
              have u3 := tmod_b ((ts[j]'hj3).tmod 4 + 4) 4 (by decide)
              simp only [Int.cast_ofNat_Int] at u1 u2 u3
              refine J.region_lit ?_
              refine JL.q rfl rfl rfl (QW.move (.tmp rfl)) ?_
              refine JL.q rfl rfl rfl (QW.move (.tmp rfl)) ?_
              refine JL.q rfl rfl rfl (QW.index_sl sl66 ty3 rfl (.tmp rfl) (.tmp rfl) (by first | rfl | omega | (simp; done)) (by exact intsAV_getE hj3)) ?_
              refine JL.q rfl rfl rfl (QW.load_ref1 ty3 (.tmp rfl) rfl) ?_
              refine JL.q rfl rfl rfl (QW.rem (.tmp rfl) .const (by first | decide | omega) rfl) ?_
              refine JL.q rfl rfl rfl (QW.add (.tmp rfl) .const (by first | exact w64n (by first | rfl | omega | (simp; done)) (by omega) | exact w64 (by omega) | exact w64 (by simp only [EvT.css_length, List.length_take, List.length_append]; omega) | rfl)) ?_
              refine JL.q rfl rfl rfl (QW.rem (.tmp rfl) .const (by first | decide | omega) rfl) ?_
              refine JL.q rfl rfl rfl (QW.assign (.tmp rfl)) ?_
              refine JL.nil ?_
              refine thenQ.n ?_
              refine J.seq ?_
              generalize hcc : (((ts[j]'hj3).tmod 4 + 4).tmod 4) = cc
              have hcc1 : 0 ≤ cc ∧ cc ≤ 3 := by omega
              obtain ⟨m3, hm3, g3, hA3⟩ := hA2.take cc hcc1.1
              refine J.region_lit ?_
              refine JL.q rfl rfl rfl (by first | exact QW.load_box 0 ty58 (.tmp rfl) rfl rfl rfl | exact QW.load_box 0 ty58 (.tmp rfl) rfl (take_at (QT.cs_length _ _) rfl) (QT.cs_length _ _)) ?_
              refine JL.q rfl rfl rfl (QW.move (.tmp rfl)) ?_
              refine JL.q rfl rfl rfl (QW.call gofn43 (.cons (.tmp rfl) (.cons (.tmp rfl) .nil)) (takeAt hA2 g3)) ?_
              refine JL.q rfl rfl rfl (QW.move (.tmp rfl)) ?_
              refine JL.q rfl rfl rfl (QW.extract (.tmp rfl) rfl) ?_
              refine JL.q rfl rfl rfl (QW.extract (.tmp rfl) rfl) ?_
              refine JL.q rfl rfl rfl (QW.extract (.tmp rfl) rfl) ?_
              refine JL.q rfl rfl rfl (QW.extract (.tmp rfl) rfl) ?_
              refine JL.alloc z58 rfl rfl fun b16 => ?_
              first | refine JL.store_boxF 0 ty58 (.tmp rfl) rfl (.tmp rfl) (by first | rfl | assumption) (rfl) (rfl) rfl ?_ | refine JL.store_boxF 0 ty58 (.tmp rfl) rfl (.tmp rfl) (by first | rfl | assumption) (rfl) (QT.cs_length _ _) rfl ?_ | refine JL.store_boxF 0 ty58 (.tmp rfl) rfl (.tmp rfl) (by first | rfl | assumption) (QT.cs_length _ _) (rfl) rfl ?_ | refine JL.store_boxF 0 ty58 (.tmp rfl) rfl (.tmp rfl) (by first | rfl | assumption) (QT.cs_length _ _) (QT.cs_length _ _) rfl ?_ | refine JL.store_box 0 ty58 (.tmp rfl) rfl (.tmp rfl) (by first | rfl | assumption) rfl rfl rfl rfl ?_ | refine JL.store_box 0 ty58 (.tmp rfl) rfl (.tmp rfl) (by first | rfl | assumption) (QT.cs_length _ _) rfl rfl rfl ?_
              refine JL.q rfl rfl rfl (QW.assign (.tmp rfl)) ?_
              refine JL.q rfl rfl rfl (QW.assign (.tmp rfl)) ?_
              refine JL.q rfl rfl rfl (QW.assign (.tmp rfl)) ?_
              refine JL.nil ?_
              refine thenQ.n ?_
              refine J.seq ?_
              refine J.seq ?_
              refine J.region_lit ?_
              refine JL.q rfl rfl rfl (QW.move (.tmp rfl)) ?_
              refine JL.q rfl rfl rfl (QW.call gofn40 (.cons (.tmp rfl) .nil) (num18_ok _)) ?_
              refine JL.q rfl rfl rfl (QW.neq (.tmp rfl) .const) ?_
              refine JL.q rfl rfl rfl (QW.move (.tmp rfl)) ?_
              refine JL.g rfl rfl rfl rfl rfl (fun hg => (QW.move (.tmp rfl))) ?_
              refine JL.g rfl rfl rfl rfl rfl (fun hg => (by first | exact QW.len_slE sl56 (.when rfl hg) (EvT.css_length _ _) | exact QW.len_sl sl56 (.when rfl hg) | exact QW.len_nil sl56 (.when rfl hg))) ?_
              refine JL.g rfl rfl rfl rfl rfl (fun hg => (QW.move (.tmp rfl))) ?_
              refine JL.g rfl rfl rfl rfl rfl (fun hg => (QW.move (.tmp rfl))) ?_
              refine JL.g rfl rfl rfl rfl rfl (fun hg => (QW.len_arr 2 sl56 (.when rfl hg) rfl)) ?_
              refine JL.g rfl rfl rfl rfl rfl (fun hg => (QW.move (.tmp rfl))) ?_
              refine JL.g rfl rfl rfl rfl rfl (fun hg => (QW.len_arr 3 sl56 (.when rfl hg) rfl)) ?_
              refine JL.g rfl rfl rfl rfl rfl (fun hg => (QW.sub (.when rfl hg) (.when rfl hg) (by first | exact w64n (by first | rfl | omega | (simp; done)) (by omega) | exact w64 (by omega) | exact w64 (by simp only [EvT.css_length, List.length_take, List.length_append]; omega) | rfl))) ?_
              refine JL.g rfl rfl rfl rfl rfl (fun hg => (QW.min2 (.when rfl hg) (.when rfl hg))) ?_
              refine JL.g rfl rfl rfl rfl rfl (fun hg => (QW.neq (.when rfl hg) (.when rfl hg))) ?_
              refine JL.q rfl rfl rfl (QW.pick_or (.tmp rfl) (.tmp rfl)) ?_
              refine JL.q rfl rfl rfl (QW.move (.tmp rfl)) ?_
              refine JL.g rfl rfl rfl rfl rfl (fun hg => (QW.move (.tmp rfl))) ?_
              refine JL.g rfl rfl rfl rfl rfl (fun hg => (by first | exact QW.len_slE sl56 (.when rfl hg) (EvT.css_length _ _) | exact QW.len_sl sl56 (.when rfl hg) | exact QW.len_nil sl56 (.when rfl hg))) ?_
              refine JL.g rfl rfl rfl rfl rfl (fun hg => (QW.gtr (.when rfl hg) .const)) ?_
              refine JL.g rfl rfl rfl rfl rfl (fun hg => (QW.move (.when rfl hg))) ?_
              refine JL.gg rfl rfl rfl rfl rfl (fun hg => (QW.move (.tmp rfl))) ?_
              refine JL.gg rfl rfl rfl rfl rfl (fun hg => (QW.move (.tmp rfl))) ?_
              refine JL.gg rfl rfl rfl rfl rfl (fun hg => (QW.len_arr 3 sl56 (.when rfl hg) rfl)) ?_
              refine JL.gg rfl rfl rfl rfl rfl (fun hg => (QW.add (.when rfl hg) .const (by first | exact w64n (by first | rfl | omega | (simp; done)) (by omega) | exact w64 (by omega) | exact w64 (by simp only [EvT.css_length, List.length_take, List.length_append]; omega) | rfl))) ?_
              refine JL.gg rfl rfl rfl rfl rfl (fun hg => (QW.neq (.when rfl hg) (.when rfl hg))) ?_
              refine JL.g rfl rfl rfl rfl rfl (fun hg => (by first | exact QW.pick_and (.when rfl hg) (.tmp rfl) | exact QW.pick_and2 hg (.when rfl hg) (.tmp rfl))) ?_
              refine JL.q rfl rfl rfl (QW.pick_or (.tmp rfl) (.tmp rfl)) ?_
              refine JL.q rfl rfl rfl (QW.move (.tmp rfl)) ?_
              refine JL.g rfl rfl rfl rfl rfl (fun hg => (QW.move (.tmp rfl))) ?_
              refine JL.g rfl rfl rfl rfl rfl (fun hg => (by first | exact QW.len_slE sl56 (.when rfl hg) (EvT.css_length _ _) | exact QW.len_sl sl56 (.when rfl hg) | exact QW.len_nil sl56 (.when rfl hg))) ?_
              refine JL.g rfl rfl rfl rfl rfl (fun hg => (QW.eql (.when rfl hg) .const)) ?_
              refine JL.g rfl rfl rfl rfl rfl (fun hg => (QW.move (.when rfl hg))) ?_
              refine JL.gg rfl rfl rfl rfl rfl (fun hg => (QW.move (.tmp rfl))) ?_
              refine JL.gg rfl rfl rfl rfl rfl (fun hg => (QW.neq (.when rfl hg) .const)) ?_
              refine JL.g rfl rfl rfl rfl rfl (fun hg => (by first | exact QW.pick_and (.when rfl hg) (.tmp rfl) | exact QW.pick_and2 hg (.when rfl hg) (.tmp rfl))) ?_
              refine JL.q rfl rfl rfl (QW.pick_or (.tmp rfl) (.tmp rfl)) ?_
              refine JL.nil ?_
              refine thenQ.n ?_
              refine J.cond (.tmp rfl) (fun c7 => ?_) (fun c7 => ?_)
              · skip
                exfalso
                have hk3 := hA3.hk
                have e1 : ((I2.drop k).take m3).length = m3 := by (simp; omega)
                have e2 : (EvT.css true (I2.take k)).length = k := by (rw [EvT.css_length]; simp; omega)
                rw [e1, e2, EvT.css_length] at c7
                by_cases hm0 : 0 < m3
                · simp [hm0] at c7
                  split at c7 <;> omega
                · simp [hm0] at c7
                  split at c7 <;> omega
                --closed
              · skip
                refine J.skip ?_
                refine thenQ.n ?_
                refine J.seq ?_
                refine J.region_lit ?_
                refine JL.q rfl rfl rfl (by first | exact QW.load_box 0 ty58 (.tmp rfl) rfl rfl rfl | exact QW.load_box 0 ty58 (.tmp rfl) rfl (take_at (QT.cs_length _ _) rfl) (QT.cs_length _ _)) ?_
                first | refine JL.store_boxF 1 ty58 (.tmp rfl) rfl (.tmp rfl) (by first | rfl | assumption) (rfl) (rfl) rfl ?_ | refine JL.store_boxF 1 ty58 (.tmp rfl) rfl (.tmp rfl) (by first | rfl | assumption) (rfl) (QT.cs_length _ _) rfl ?_ | refine JL.store_boxF 1 ty58 (.tmp rfl) rfl (.tmp rfl) (by first | rfl | assumption) (QT.cs_length _ _) (rfl) rfl ?_ | refine JL.store_boxF 1 ty58 (.tmp rfl) rfl (.tmp rfl) (by first | rfl | assumption) (QT.cs_length _ _) (QT.cs_length _ _) rfl ?_ | refine JL.store_box 1 ty58 (.tmp rfl) rfl (.tmp rfl) (by first | rfl | assumption) rfl rfl rfl rfl ?_ | refine JL.store_box 1 ty58 (.tmp rfl) rfl (.tmp rfl) (by first | rfl | assumption) (QT.cs_length _ _) rfl rfl rfl ?_
                refine JL.nil ?_
                refine thenQ.n ?_
                refine J.region_lit ?_
                refine JL.q rfl rfl rfl (QW.move (.tmp rfl)) ?_
                refine JL.q rfl rfl rfl (QW.move (.tmp rfl)) ?_
                refine JL.append 3 sl56 el70 rfl (.tmp rfl) rfl (srcA_sl sl56 (.tmp rfl)) (by rw [EvT.css_length, EvT.css_length]; simp; unfold reach; omega) rfl fun v146 => ?_
                refine JL.q rfl rfl rfl (QW.assign (.tmp rfl)) ?_
                refine JL.nil ?_
                refine blkQ.n ?_
                refine thenQ.n ?_
                refine J.region_lit ?_
                refine JL.q rfl rfl rfl (QW.move (.tmp rfl)) ?_
                refine JL.q rfl rfl rfl (QW.add (.tmp rfl) .const (by first | exact w64n (by first | rfl | omega | (simp; done)) (by omega) | exact w64 (by omega) | exact w64 (by simp only [EvT.css_length, List.length_take, List.length_append]; omega) | rfl)) ?_
                refine JL.q rfl rfl rfl (QW.assign (.tmp rfl)) ?_
                refine JL.nil ?_
                refine thenQ.n ?_
                exact ⟨⟨j + 1, I2, k + m3, vi, v146⟩, ⟨by omega, hA3⟩, by show 40 - (j + 1) < 40 - j; omega, Wk.re (.cons rfl (.refl _) (.cons rfl (.refl _) (.cons rfl (.refl _) (.cons rfl (.refl _) (.cons rfl (.refl _) (.cons rfl (.refl _) (.cons rfl (.refl _) .nil))))))) ((Reown.mask [.k, .p, .p, .p] _ rfl).trans (Reown.ofEq (by show [_, _, _] = [_, _, _]; congr 3; rw [← EvT.css_append, List.take_add]; rfl))) (fun _ h => by first | exact h | simp [h])⟩
      · skip
        skip
        refine J.exit ?_
        refine thenQ.x ?_
        refine thenQ.x ?_
        refine blkQ.hit ?_
        refine thenQ.n ?_
        refine J.seq ?_
        obtain ⟨m4, hm4, g4, hA4⟩ := hA.take 100 (by decide)
        have hall : EvT.css true (I.take k) ++ EvT.css true ((I.drop k).take m4) = EvT.css true I := by (rw [← EvT.css_append, ← List.take_add, List.take_of_length_le (by have := hA.hk; have := hA.hn; omega)])
        refine J.region_lit ?_
        refine JL.q rfl rfl rfl (by first | exact QW.load_box 0 ty58 (.tmp rfl) rfl rfl rfl | exact QW.load_box 0 ty58 (.tmp rfl) rfl (take_at (QT.cs_length _ _) rfl) (QT.cs_length _ _)) ?_
        refine JL.q rfl rfl rfl (QW.call gofn43 (.cons (.tmp rfl) (.cons .const .nil)) (takeAt hA g4)) ?_
        refine JL.q rfl rfl rfl (QW.move (.tmp rfl)) ?_
        refine JL.q rfl rfl rfl (QW.extract (.tmp rfl) rfl) ?_
        refine JL.q rfl rfl rfl (QW.extract (.tmp rfl) rfl) ?_
        refine JL.q rfl rfl rfl (QW.extract (.tmp rfl) rfl) ?_
        refine JL.q rfl rfl rfl (QW.extract (.tmp rfl) rfl) ?_
        refine JL.alloc z58 rfl rfl fun b20 => ?_
        first | refine JL.store_boxF 0 ty58 (.tmp rfl) rfl (.tmp rfl) (by first | rfl | assumption) (rfl) (rfl) rfl ?_ | refine JL.store_boxF 0 ty58 (.tmp rfl) rfl (.tmp rfl) (by first | rfl | assumption) (rfl) (QT.cs_length _ _) rfl ?_ | refine JL.store_boxF 0 ty58 (.tmp rfl) rfl (.tmp rfl) (by first | rfl | assumption) (QT.cs_length _ _) (rfl) rfl ?_ | refine JL.store_boxF 0 ty58 (.tmp rfl) rfl (.tmp rfl) (by first | rfl | assumption) (QT.cs_length _ _) (QT.cs_length _ _) rfl ?_ | refine JL.store_box 0 ty58 (.tmp rfl) rfl (.tmp rfl) (by first | rfl | assumption) rfl rfl rfl rfl ?_ | refine JL.store_box 0 ty58 (.tmp rfl) rfl (.tmp rfl) (by first | rfl | assumption) (QT.cs_length _ _) rfl rfl rfl ?_
        refine JL.q rfl rfl rfl (QW.assign (.tmp rfl)) ?_
        refine JL.q rfl rfl rfl (QW.assign (.tmp rfl)) ?_
        refine JL.q rfl rfl rfl (QW.assign (.tmp rfl)) ?_
        refine JL.nil ?_
        refine thenQ.n ?_
        refine J.seq ?_
        refine J.region_lit ?_
        refine JL.q rfl rfl rfl (QW.move (.tmp rfl)) ?_
        refine JL.q rfl rfl rfl (QW.move (.tmp rfl)) ?_
        refine JL.append 3 sl56 el70 rfl (.tmp rfl) rfl (srcA_sl sl56 (.tmp rfl)) (by rw [EvT.css_length, EvT.css_length]; simp; unfold reach; omega) rfl fun v156 => ?_
        refine JL.q rfl rfl rfl (QW.assign (.tmp rfl)) ?_
        refine JL.nil ?_
        refine thenQ.n ?_
        refine J.seq ?_
        refine J.region_lit ?_
        refine JL.q rfl rfl rfl (QW.move (.tmp rfl)) ?_
        refine JL.q rfl rfl rfl (QW.call gofn40 (.cons (.tmp rfl) .nil) (num18_ok _)) ?_
        refine JL.q rfl rfl rfl (QW.eql (.tmp rfl) .const) ?_
        refine JL.q rfl rfl rfl (QW.move (.tmp rfl)) ?_
        refine JL.g rfl rfl rfl rfl rfl (fun hg => (QW.move (.tmp rfl))) ?_
        refine JL.g rfl rfl rfl rfl rfl (fun hg => (QW.move (.tmp rfl))) ?_
        refine JL.g rfl rfl rfl rfl rfl (fun hg => (QW.callLF [.k, .k, .l, .l] gofn44 (Lent.cons (Lent.arr (by rw [EvT.css_length]; exact hA.wf.1)) (Lent.cons (Lent.arr (by rw [List.length_append, EvT.css_length, EvT.css_length]; have := hA.wf.1; simp; omega)) Lent.nil)) rfl rfl (fun _ => (.cons (Ev.le (.when rfl hg) (.fact (by simp) (.refl _))) (.cons (Ev.le (.when rfl hg) (.fact (.tail _ (.head _)) (by rw [hall]; exact .slL id (by simp [EvT.css]) (EvT.css_sz false _) (EvT.css_le true false (fun h => by cases h) _)))) .nil))) (sameEvents_ok (fr := false) (fr2 := false) (c := false) (c2 := false) hA.wf hA.wf) (Fl.c _))) ?_
        refine JL.q rfl rfl rfl (QW.pick_and (.tmp rfl) (.tmp rfl)) ?_
        refine JL.q rfl rfl rfl (QW.assign (.tmp rfl)) ?_
        refine JL.nil ?_
        refine thenQ.n ?_
        refine J.ret ?_
        exact ⟨_, selP [.k, .k, .k, .k] _, _, RetEv.one rfl (REv.tmp rfl (.refl _)), rfl, sel_perm [.k, .k, .k, .k] _, ⟨ret_b (by simp), rfl⟩⟩

end Go.Proofs.Ytkiankpmkglhcaa.J

/- Walks: QueueOwn. -/
namespace Go.Proofs.Ytkiankpmkglhcaa.J
open Go Go.RowKit
set_option linter.unusedVariables false
set_option linter.unusedSimpArgs false
set_option maxRecDepth 10000
set_option maxHeartbeats 4000000

/-- A queue in memory of its own. -/
def OfR : QT → AV → List Own → Prop
  | ⟨a, b, l⟩, x, o => ∃ v ov, x = .agg [.c (.int .i64 a), .c (.int .i64 b), .c v] ∧ v.oneCell' = true ∧ o = [ov] ∧ Tr (.sl true false eEv (EvT.css true l)) v ov
theorem QT.cs_fresh : ∀ q : QT, Fresh (.agg (q.cs true))
  | ⟨_, _, l⟩ => .agg (FlL.cons (.c _) (FlL.cons (.c _) (FlL.cons (events_fresh l false) .nil)))
theorem pushAV_fresh (q : QT) (e : EvT) : Fresh (pushAV q e) := .tup (FlL.cons (QT.cs_fresh _) (FlL.cons (.c _) (FlL.cons (.c _) .nil)))
theorem takeAV_fresh (q : QT) (n : Int) : Fresh (takeAV q n) := .tup (FlL.cons (QT.cs_fresh _) (FlL.cons (events_fresh _ false) (FlL.cons (.c _) (FlL.cons (.c _) .nil))))
theorem evs_take {l : List EvT} {cs : List (List AV)} {us : List Value} {o : Own} {j : Nat} (hlt : j < l.length) (hl : cs.length = l.length) (h3 : ∀ x ∈ cs, x.length = 6) (hf : (cs.drop j).flatten = us.map AV.c) (h1 : us.all (·.oneCell') = true) (h : TrL (EvT.css true (l.drop j)).flatten us o) :
    ∃ kv iv ok oi us2 o2, cs[j]? = some ((l[j]'hlt).raw kv iv) ∧ VTr (l[j]'hlt).arg kv iv ok oi ∧ (cs.drop (j + 1)).flatten = us2.map AV.c ∧ us2.all (·.oneCell') = true ∧ TrL (EvT.css true (l.drop (j + 1))).flatten us2 o2 ∧ Reown [o] [ok, oi, o2] := by
  rw [List.drop_eq_getElem_cons hlt, show EvT.css true (l[j] :: l.drop (j + 1)) = l[j].cs true :: EvT.css true (l.drop (j + 1)) from rfl, List.flatten_cons] at h
  obtain ⟨u1, u2, o1, o2, rfl, f1, g2, g3⟩ := h.split
  rw [List.all_append, Bool.and_eq_true] at h1
  obtain ⟨u0, u1', a0, b0, rfl, k0, g1, k1⟩ := f1.cons_inv
  obtain rfl := k0.c_inv
  have h1' := h1.1
  rw [List.all_cons, Bool.and_eq_true] at h1'
  obtain ⟨kv, iv, ok, oi, rfl, hV, hR⟩ := g1.value h1'.2
  have hj : j < cs.length := by omega
  rw [List.drop_eq_getElem_cons hj] at hf
  obtain ⟨m1, m2⟩ := flat_first hf (by rw [h3 _ (List.getElem_mem hj)]; rfl)
  refine ⟨kv, iv, ok, oi, u2, o2, by rw [List.getElem?_eq_getElem hj, m1]; rfl, hV, m2, h1.2, g2, ?_⟩
  have s1 : Reown [o] [o1, o2] := Reown.pair g3
  have s0 : Reown [o1] [b0] := (Reown.pair k1).trans (Reown.dropN 1 _ rfl)
  have s2 : Reown [o1, o2] [ok, oi, o2] := (Reown.perm (List.Perm.swap _ _ _)).trans ((Reown.left (c := [o2]) (s0.trans hR)).trans (Reown.perm (by
    simpa using (List.perm_append_comm (l₁ := [o2]) (l₂ := [ok, oi])))))
  exact s1.trans s2

theorem of18_own {fr : Bool} {q : QT} {ys : List AV} (hq : Qc fr q ys) (hw : q.wf) : AC Try.prog 45 [] [.agg ys] (RetR (OfR q)) := by
  obtain ⟨lim, la, l⟩ := q
  subst hq
  obtain ⟨-, -, hl⟩ := hw
  simp only at hl
  refine AC.of_J Try.func45 rfl Try.ntmps45 rfl fun w0 A0 => ?_
  refine J.seq ?_
  refine J.region_lit ?_
  refine JL.box_agg (.tmp rfl) rfl fun b1 => ?_
  refine JL.alloc z58 rfl rfl fun b2 => ?_
  refine JL.nil ?_
  refine thenQ.n ?_
  refine J.seq ?_
  refine J.region_outK 7 1 (fun os_ ow_ x_ o_ => match os_ with | [] => (∃ o2_, (EvsR l) x_ o2_ ∧ o_ = mrg [] o2_ ow_) | _ => False) mixed (by kernel_rfl) (by kernel_rfl) (by kernel_rfl) rfl ?_
  refine OutK.quiet [] rfl rfl rfl (fun qs_ qv_ ql_ => (.q rfl (QW.field_ptr fo61_0 (.tmp rfl) rfl))) ?_
  refine OutK.quiet [3] rfl rfl rfl (fun qs_ qv_ ql_ => by
      rcases qs_ with _ | ⟨⟨y0, p0⟩, qs_⟩
      · skip
        exact (.q rfl (QW.load_box1 1 ty3 (.tmp rfl) rfl rfl))
      rcases qs_ with _ | ⟨⟨y1, p1⟩, qs_⟩
      · skip
        obtain ⟨hr0, _⟩ := qv_
        obtain ⟨o9, ⟨v9, ov9, rfl, hs9, rfl, hT9⟩, rfl⟩ := hr0
        exact (.q rfl (QW.load_box1 1 ty3 (.tmp rfl) rfl rfl))
      exact absurd ql_ (by simp)) ?_
  refine OutK.quiet [] rfl rfl rfl (fun qs_ qv_ ql_ => (.q rfl (QW.field_ptr fo61_1 (.tmp rfl) rfl))) ?_
  refine OutK.quiet [5] rfl rfl rfl (fun qs_ qv_ ql_ => by
      rcases qs_ with _ | ⟨⟨y0, p0⟩, qs_⟩
      · skip
        exact (.q rfl (QW.load_box1 1 ty3 (.tmp rfl) rfl rfl))
      rcases qs_ with _ | ⟨⟨y1, p1⟩, qs_⟩
      · skip
        obtain ⟨hr0, _⟩ := qv_
        obtain ⟨o9, ⟨v9, ov9, rfl, hs9, rfl, hT9⟩, rfl⟩ := hr0
        exact (.q rfl (QW.load_box1 1 ty3 (.tmp rfl) rfl rfl))
      exact absurd ql_ (by simp)) ?_
  refine OutK.quiet [] rfl rfl rfl (fun qs_ qv_ ql_ => (.q rfl (QW.field_ptr fo61_2 (.tmp rfl) rfl))) ?_
  refine OutK.quiet [7] rfl rfl rfl (fun qs_ qv_ ql_ => by
      rcases qs_ with _ | ⟨⟨y0, p0⟩, qs_⟩
      · skip
        exact (.q rfl (QW.load_box1 1 ty56 (.tmp rfl) rfl rfl))
      rcases qs_ with _ | ⟨⟨y1, p1⟩, qs_⟩
      · skip
        obtain ⟨hr0, _⟩ := qv_
        obtain ⟨o9, ⟨v9, ov9, rfl, hs9, rfl, hT9⟩, rfl⟩ := hr0
        exact (.q rfl (QW.load_box1 1 ty56 (.tmp rfl) rfl rfl))
      exact absurd ql_ (by simp)) ?_
  refine OutK.loud [8] rfl rfl rfl rfl rfl (fun qs_ qv_ ql_ => by
      obtain rfl : qs_ = [] := List.length_eq_zero_iff.1 ql_
      exact LStepR.callRF (d := 9) [] gofn88 Lent.nil (fun _ => (.cons (.tmp rfl) .nil)) (copyEvents_ok hl) (.inl rfl)) ?_
  refine .nil fun qs_ qv_ ql_ => ?_
  obtain ⟨⟨y0, p0⟩, qs_, rfl⟩ : ∃ p t, qs_ = p :: t := by (cases qs_ with | nil => simp at ql_ | cons p t => exact ⟨p, t, rfl⟩)
  obtain rfl : qs_ = [] := List.length_eq_zero_iff.1 (by simpa using ql_)
  obtain ⟨hr0, _⟩ := qv_
  obtain ⟨o9, ⟨v9, ov9, rfl, hs9, rfl, hT9⟩, rfl⟩ := hr0
  refine JL.conv (by (try simp only [stepsO, List.map_cons, List.map_nil, valO, nthO, curO, mrg, List.reverse_cons, List.reverse_nil, List.nil_append, List.cons_append, List.append_nil, List.getElem?_cons_zero, List.getElem?_cons_succ, Option.map_some, Option.getD_some, List.set_cons_zero, List.set_cons_succ, AV.cellsOf, splice_zero, splice_succ, Nat.zero_add, Nat.reduceAdd]); rfl) ?_
  refine JL.q rfl rfl rfl (QW.build (idx := [0, 1, 2]) pl58 z58 rfl (.cons (.tmp rfl) (.cons (.tmp rfl) (.cons (.tmp rfl) .nil))) rfl (by simp [AV.plain, AV.one, hs9]; exact ⟨rfl, rfl⟩) rfl rfl) ?_
  first | refine JL.store_boxF 0 ty58 (.tmp rfl) rfl (.tmp rfl) (by first | rfl | assumption) (rfl) (rfl) rfl ?_ | refine JL.store_boxF 0 ty58 (.tmp rfl) rfl (.tmp rfl) (by first | rfl | assumption) (rfl) (QT.cs_length _ _) rfl ?_ | refine JL.store_boxF 0 ty58 (.tmp rfl) rfl (.tmp rfl) (by first | rfl | assumption) (QT.cs_length _ _) (rfl) rfl ?_ | refine JL.store_boxF 0 ty58 (.tmp rfl) rfl (.tmp rfl) (by first | rfl | assumption) (QT.cs_length _ _) (QT.cs_length _ _) rfl ?_ | refine JL.store_box 0 ty58 (.tmp rfl) rfl (.tmp rfl) (by first | rfl | assumption) rfl rfl rfl rfl ?_ | refine JL.store_box 0 ty58 (.tmp rfl) rfl (.tmp rfl) (by first | rfl | assumption) (QT.cs_length _ _) rfl rfl rfl ?_
  refine JL.nil ?_
  refine thenQ.n ?_
  refine J.ret ?_
  exact ⟨_, selP [.k, .k, .p] _, _, RetEv.one rfl (by first | exact REv.cell 0 ty58 rfl rfl rfl rfl (.refl _) | exact REv.cell 0 ty58 rfl rfl (take_at (QT.cs_length _ _) rfl) (QT.cs_length _ _) (.refl _)), rfl, sel_perm [.k, .k, .p] _, ⟨_, rfl, _, _, rfl, hs9, rfl, hT9⟩⟩

theorem queueOwn_ok {q : QT} {e : EvT} {n : Int} (hw : q.wf) (hwe : e.wf) : Fn Try.prog 11 [.agg (q.cs false), .agg (e.cs false), .c (.int .i64 n)] (.c (.bool true)) := by
  obtain ⟨nm, ⟨kd, bt, tx, ks, is⟩⟩ := e
  obtain ⟨lim, la, l⟩ := q
  have hv := hwe.arg
  simp only at hv
  have hlw := hw.ev
  simp only at hlw
  have hln := hlw.len
  have hpw := QT.push_wf hw hwe
  have htw := (QT.take_wf (n := n) hw).1
  have htl := (QT.take_wf (n := n) hw).2
  refine AC.of_J Try.func11 rfl Try.ntmps11 rfl fun w0 A0 => ?_
  refine J.seq ?_
  refine J.region_lit ?_
  refine JL.box_agg (.tmp rfl) rfl fun b3 => ?_
  refine JL.box_agg (.tmp rfl) rfl fun b4 => ?_
  refine JL.q rfl rfl rfl (QW.assign .const) ?_
  refine JL.nil ?_
  refine thenQ.n ?_
  refine J.seq ?_
  refine J.seq ?_
  refine J.region_lit ?_
  refine JL.q rfl rfl rfl (QW.call gofn41 .nil (alive18_ok)) ?_
  refine JL.q rfl rfl rfl (QW.not (.tmp rfl)) ?_
  refine JL.nil ?_
  refine thenQ.n ?_
  refine J.cond (.tmp rfl) (fun c1 => ?_) (fun c1 => ?_)
  · skip
    exact absurd c1 (by simp)
    --closed
  · skip
    skip
    refine J.skip ?_
    refine thenQ.n ?_
    refine J.seq ?_
    refine J.region_outAK 7 2 (fun os_ ow_ x_ o_ => match os_ with | [] => (∃ o2_, (OfR ⟨lim, la, l⟩) x_ o2_ ∧ o_ = mrg [] o2_ ow_) | [(x0_, _)] => (∃ o2_, (CopyR (.mk kd bt tx ks is)) x_ o2_ ∧ o_ = mrg [] o2_ ow_) | _ => False) mixed (by kernel_rfl) (by kernel_rfl) (by kernel_rfl) rfl ?_
    refine OutA.quiet [] rfl rfl rfl (fun qs_ ex_ qv_ ql_ => by
        rcases qs_ with _ | ⟨⟨y0, p0⟩, qs_⟩
        · skip
          exact (.q rfl (by first | exact QW.load_box 1 ty61 (.tmp rfl) rfl rfl rfl | exact QW.load_box 1 ty61 (.tmp rfl) rfl (take_at (QT.cs_length _ _) rfl) (QT.cs_length _ _)))
        rcases qs_ with _ | ⟨⟨y1, p1⟩, qs_⟩
        · skip
          obtain ⟨hr0, _⟩ := qv_
          obtain ⟨o27, ⟨v27, ov27, rfl, hs27, rfl, hT27⟩, rfl⟩ := hr0
          exact (.q rfl (by first | exact QW.load_box 1 ty61 (.tmp rfl) rfl rfl rfl | exact QW.load_box 1 ty61 (.tmp rfl) rfl (take_at (QT.cs_length _ _) rfl) (QT.cs_length _ _)))
        rcases qs_ with _ | ⟨⟨y2, p2⟩, qs_⟩
        · skip
          obtain ⟨hr1, hr0, _⟩ := qv_
          obtain ⟨o27, ⟨v27, ov27, rfl, hs27, rfl, hT27⟩, rfl⟩ := hr0
          obtain ⟨o30, ⟨kv30, iv30, ok30, oi30, rfl, rfl, hV30⟩, rfl⟩ := hr1
          exact (.q rfl (by first | exact QW.load_box 1 ty61 (.tmp rfl) rfl rfl rfl | exact QW.load_box 1 ty61 (.tmp rfl) rfl (take_at (QT.cs_length _ _) rfl) (QT.cs_length _ _)))
        exact absurd ql_ (by simp)) ?_
    refine OutA.loud [26] rfl rfl rfl rfl rfl (fun qs_ ex_ qv_ ql_ => by
        obtain rfl : qs_ = [] := List.length_eq_zero_iff.1 ql_
        exact LStepR.frameM [] (LStepR.callRF (d := 27) [] gofn45 Lent.nil (fun _ => (.cons (.tmp rfl) .nil)) (of18_own Qc.self hw) (.inl rfl)) rfl rfl (fun x o2 h => ⟨o2, h, rfl⟩)) ?_
    refine OutA.quiet [] rfl rfl rfl (fun qs_ ex_ qv_ ql_ => (.q rfl (QW.field_ptr fo70_1 (.tmp rfl) rfl))) ?_
    refine OutA.quiet [28] rfl rfl rfl (fun qs_ ex_ qv_ ql_ => by
        rcases qs_ with _ | ⟨⟨y0, p0⟩, qs_⟩
        · skip
          exact (.q rfl (by first | exact QW.load_box 0 ty26 (.tmp rfl) rfl rfl rfl | exact QW.load_box 0 ty26 (.tmp rfl) rfl (take_at (V.cs_length _ _) rfl) (V.cs_length _ _)))
        rcases qs_ with _ | ⟨⟨y1, p1⟩, qs_⟩
        · skip
          obtain ⟨hr0, _⟩ := qv_
          obtain ⟨o27, ⟨v27, ov27, rfl, hs27, rfl, hT27⟩, rfl⟩ := hr0
          exact (.q rfl (by first | exact QW.load_box 0 ty26 (.tmp rfl) rfl rfl rfl | exact QW.load_box 0 ty26 (.tmp rfl) rfl (take_at (V.cs_length _ _) rfl) (V.cs_length _ _)))
        rcases qs_ with _ | ⟨⟨y2, p2⟩, qs_⟩
        · skip
          obtain ⟨hr1, hr0, _⟩ := qv_
          obtain ⟨o27, ⟨v27, ov27, rfl, hs27, rfl, hT27⟩, rfl⟩ := hr0
          obtain ⟨o30, ⟨kv30, iv30, ok30, oi30, rfl, rfl, hV30⟩, rfl⟩ := hr1
          exact (.q rfl (by first | exact QW.load_box 0 ty26 (.tmp rfl) rfl rfl rfl | exact QW.load_box 0 ty26 (.tmp rfl) rfl (take_at (V.cs_length _ _) rfl) (V.cs_length _ _)))
        exact absurd ql_ (by simp)) ?_
    refine OutA.loud [29] rfl rfl rfl rfl rfl (fun qs_ ex_ qv_ ql_ => by
        obtain ⟨⟨y0, p0⟩, qs_, rfl⟩ : ∃ p t, qs_ = p :: t := by (cases qs_ with | nil => simp at ql_ | cons p t => exact ⟨p, t, rfl⟩)
        obtain rfl : qs_ = [] := List.length_eq_zero_iff.1 (by simpa using ql_)
        obtain ⟨hr0, _⟩ := qv_
        obtain ⟨o27, ⟨v27, ov27, rfl, hs27, rfl, hT27⟩, rfl⟩ := hr0
        exact LStepR.frameM [] (LStepR.callRF (d := 30) [] gofn20 Lent.nil (fun _ => (.cons (.tmp rfl) .nil)) (copyValue_ok Vc.self hv) (.inl rfl)) rfl rfl (fun x o2 h => ⟨o2, h, rfl⟩)) ?_
    refine OutA.alloc (AllocOp.mk z58 rfl) rfl ?_
    refine OutA.alloc (AllocOp.mk z26 rfl) rfl ?_
    refine .nil fun qs_ bs_ qv_ ql_ => ?_
    obtain ⟨⟨y1, p1⟩, qs_, rfl⟩ : ∃ p t, qs_ = p :: t := by (cases qs_ with | nil => simp at ql_ | cons p t => exact ⟨p, t, rfl⟩)
    simp only [List.length_cons, Nat.add_right_cancel_iff] at ql_
    obtain ⟨⟨y0, p0⟩, qs_, rfl⟩ : ∃ p t, qs_ = p :: t := by (cases qs_ with | nil => simp at ql_ | cons p t => exact ⟨p, t, rfl⟩)
    obtain rfl : qs_ = [] := List.length_eq_zero_iff.1 (by simpa using ql_)
    obtain ⟨hr1, hr0, _⟩ := qv_
    obtain ⟨o27, ⟨v27, ov27, rfl, hs27, rfl, hT27⟩, rfl⟩ := hr0
    obtain ⟨o30, ⟨kv30, iv30, ok30, oi30, rfl, rfl, hV30⟩, rfl⟩ := hr1
    refine JL.conv (by (try simp only [stepsO, List.map_cons, List.map_nil, valO, nthO, curO, mrg, List.reverse_cons, List.reverse_nil, List.nil_append, List.cons_append, List.append_nil, List.getElem?_cons_zero, List.getElem?_cons_succ, Option.map_some, Option.getD_some, List.set_cons_zero, List.set_cons_succ, AV.cellsOf, splice_zero, splice_succ, Nat.zero_add, Nat.reduceAdd, alE, alO]); rfl) ?_
    first | refine JL.store_boxF 5 ty58 (.tmp rfl) rfl (.tmp rfl) (by first | rfl | assumption) (rfl) (rfl) rfl ?_ | refine JL.store_boxF 5 ty58 (.tmp rfl) rfl (.tmp rfl) (by first | rfl | assumption) (rfl) (QT.cs_length _ _) rfl ?_ | refine JL.store_boxF 5 ty58 (.tmp rfl) rfl (.tmp rfl) (by first | rfl | assumption) (QT.cs_length _ _) (rfl) rfl ?_ | refine JL.store_boxF 5 ty58 (.tmp rfl) rfl (.tmp rfl) (by first | rfl | assumption) (QT.cs_length _ _) (QT.cs_length _ _) rfl ?_ | refine JL.store_box 5 ty58 (.tmp rfl) rfl (.tmp rfl) (by first | rfl | assumption) rfl rfl rfl rfl ?_ | refine JL.store_box 5 ty58 (.tmp rfl) rfl (.tmp rfl) (by first | rfl | assumption) (QT.cs_length _ _) rfl rfl rfl ?_
    first | refine JL.store_boxF 6 ty26 (.tmp rfl) rfl (.tmp rfl) (by first | rfl | assumption) (rfl) (rfl) rfl ?_ | refine JL.store_boxF 6 ty26 (.tmp rfl) rfl (.tmp rfl) (by first | rfl | assumption) (rfl) (V.cs_length _ _) rfl ?_ | refine JL.store_boxF 6 ty26 (.tmp rfl) rfl (.tmp rfl) (by first | rfl | assumption) (V.cs_length _ _) (rfl) rfl ?_ | refine JL.store_boxF 6 ty26 (.tmp rfl) rfl (.tmp rfl) (by first | rfl | assumption) (V.cs_length _ _) (V.cs_length _ _) rfl ?_ | refine JL.store_box 6 ty26 (.tmp rfl) rfl (.tmp rfl) (by first | rfl | assumption) rfl rfl rfl rfl ?_ | refine JL.store_box 6 ty26 (.tmp rfl) rfl (.tmp rfl) (by first | rfl | assumption) (V.cs_length _ _) rfl rfl rfl ?_
    refine JL.nil ?_
    refine thenQ.n ?_
    refine J.seq ?_
    refine J.region_lit ?_
    refine JL.q rfl rfl rfl (by first | exact QW.load_box 5 ty58 (.tmp rfl) rfl rfl rfl | exact QW.load_box 5 ty58 (.tmp rfl) rfl (take_at (QT.cs_length _ _) rfl) (QT.cs_length _ _)) ?_
    refine JL.q rfl rfl rfl (QW.field_ptr fo70_0 (.tmp rfl) rfl) ?_
    refine JL.q rfl rfl rfl (QW.load_box1 0 ty9 (.tmp rfl) rfl rfl) ?_
    refine JL.q rfl rfl rfl (by first | exact QW.load_box 6 ty26 (.tmp rfl) rfl rfl rfl | exact QW.load_box 6 ty26 (.tmp rfl) rfl (take_at (V.cs_length _ _) rfl) (V.cs_length _ _)) ?_
    refine JL.q rfl rfl rfl (QW.build (idx := [0, 1]) pl70 z70 rfl (.cons (.tmp rfl) (.cons (.tmp rfl) .nil)) rfl rfl rfl (by first | rfl | exact fill_ev rfl)) ?_
    refine JL.q rfl rfl rfl (QW.callLF [.k, .k, .l, .l, .l] gofn42 (Lent.cons (hT27.lent (events_le true false false (fun h => by cases h) _) (events_low _)) (Lent.cons (hV30.lentK) (Lent.cons (hV30.lentI) Lent.nil))) rfl rfl (fun _ => (.cons (Ev.le (.tmp rfl) (.aggL (.cons (.refl _) (.cons (.refl _) (.cons (.fact (.head _) (.refl _)) .nil))))) (.cons (Ev.le (.tmp rfl) (.aggL (.cons (.refl _) (.cons (.refl _) (.cons (.refl _) (.cons (.refl _) (.cons (.fact (.tail _ (.head _)) (.refl _)) (.cons (.fact (.tail _ (.tail _ (.head _))) (.refl _)) .nil)))))))) .nil))) (qpush_ok (fr := false) (fr2 := false) (q := ⟨lim, la, l⟩) (e := ⟨nm, .mk kd bt tx ks is⟩) Qc.self Ec.self hw hwe) (pushAV_fresh _ _)) ?_
    refine JL.q rfl rfl rfl (QW.move (.tmp rfl)) ?_
    refine JL.q rfl rfl rfl (QW.extract (.tmp rfl) rfl) ?_
    refine JL.q rfl rfl rfl (QW.extract (.tmp rfl) rfl) ?_
    refine JL.q rfl rfl rfl (QW.extract (.tmp rfl) rfl) ?_
    refine JL.alloc z58 rfl rfl fun b9 => ?_
    first | refine JL.store_boxF 0 ty58 (.tmp rfl) rfl (.tmp rfl) (by first | rfl | assumption) (rfl) (rfl) rfl ?_ | refine JL.store_boxF 0 ty58 (.tmp rfl) rfl (.tmp rfl) (by first | rfl | assumption) (rfl) (QT.cs_length _ _) rfl ?_ | refine JL.store_boxF 0 ty58 (.tmp rfl) rfl (.tmp rfl) (by first | rfl | assumption) (QT.cs_length _ _) (rfl) rfl ?_ | refine JL.store_boxF 0 ty58 (.tmp rfl) rfl (.tmp rfl) (by first | rfl | assumption) (QT.cs_length _ _) (QT.cs_length _ _) rfl ?_ | refine JL.store_box 0 ty58 (.tmp rfl) rfl (.tmp rfl) (by first | rfl | assumption) rfl rfl rfl rfl ?_ | refine JL.store_box 0 ty58 (.tmp rfl) rfl (.tmp rfl) (by first | rfl | assumption) (QT.cs_length _ _) rfl rfl rfl ?_
    refine JL.q rfl rfl rfl (QW.assign (.tmp rfl)) ?_
    refine JL.q rfl rfl rfl (QW.assign (.tmp rfl)) ?_
    refine JL.nil ?_
    refine thenQ.n ?_
    refine J.seq ?_
    refine J.region_lit ?_
    refine JL.q rfl rfl rfl (by first | exact QW.load_box 2 ty61 (.tmp rfl) rfl rfl rfl | exact QW.load_box 2 ty61 (.tmp rfl) rfl (take_at (QT.cs_length _ _) rfl) (QT.cs_length _ _)) ?_
    refine JL.q rfl rfl rfl (by first | exact QW.load_box 1 ty70 (.tmp rfl) rfl rfl rfl | exact QW.load_box 1 ty70 (.tmp rfl) rfl (take_at (EvT.cs_length _ _) rfl) (EvT.cs_length _ _)) ?_
    refine JL.q rfl rfl rfl (QW.call gofn46 (.cons (.tmp rfl) (.cons (.tmp rfl) .nil)) (rqpush_ok (q := ⟨lim, la, l⟩) (e := ⟨nm, .mk kd bt tx ks is⟩) Qc.self Ec.self hw hwe)) ?_
    refine JL.q rfl rfl rfl (QW.move (.tmp rfl)) ?_
    refine JL.q rfl rfl rfl (QW.extract (.tmp rfl) rfl) ?_
    refine JL.q rfl rfl rfl (QW.extract (.tmp rfl) rfl) ?_
    refine JL.q rfl rfl rfl (QW.extract (.tmp rfl) rfl) ?_
    refine JL.alloc z61 rfl rfl fun b12 => ?_
    first | refine JL.store_boxF 0 ty61 (.tmp rfl) rfl (.tmp rfl) (by first | rfl | assumption) (rfl) (rfl) rfl ?_ | refine JL.store_boxF 0 ty61 (.tmp rfl) rfl (.tmp rfl) (by first | rfl | assumption) (rfl) (QT.cs_length _ _) rfl ?_ | refine JL.store_boxF 0 ty61 (.tmp rfl) rfl (.tmp rfl) (by first | rfl | assumption) (QT.cs_length _ _) (rfl) rfl ?_ | refine JL.store_boxF 0 ty61 (.tmp rfl) rfl (.tmp rfl) (by first | rfl | assumption) (QT.cs_length _ _) (QT.cs_length _ _) rfl ?_ | refine JL.store_box 0 ty61 (.tmp rfl) rfl (.tmp rfl) (by first | rfl | assumption) rfl rfl rfl rfl ?_ | refine JL.store_box 0 ty61 (.tmp rfl) rfl (.tmp rfl) (by first | rfl | assumption) (QT.cs_length _ _) rfl rfl rfl ?_
    refine JL.q rfl rfl rfl (QW.assign (.tmp rfl)) ?_
    refine JL.q rfl rfl rfl (QW.assign (.tmp rfl)) ?_
    refine JL.nil ?_
    refine thenQ.n ?_
    refine J.seq ?_
    refine J.region_lit ?_
    refine JL.q rfl rfl rfl (by first | exact QW.load_box 7 ty58 (.tmp rfl) rfl rfl rfl | exact QW.load_box 7 ty58 (.tmp rfl) rfl (take_at (QT.cs_length _ _) rfl) (QT.cs_length _ _)) ?_
    refine JL.q rfl rfl rfl (QW.move (.tmp rfl)) ?_
    refine JL.q rfl rfl rfl (QW.callLF [.k, .k, .k, .k, .l] gofn43 (Lent.cons (hT27.lent (events_le true false false (fun h => by cases h) _) (events_low _)) Lent.nil) rfl rfl (fun _ => (.cons (Ev.le (.tmp rfl) (.aggL (.cons (.refl _) (.cons (.refl _) (.cons (.fact (.head _) (.refl _)) .nil))))) (.cons (.tmp rfl) .nil))) (qtake_ok (fr := false) (q := ⟨lim, la, l⟩) Qc.self n hw) (takeAV_fresh _ _)) ?_
    refine JL.q rfl rfl rfl (QW.move (.tmp rfl)) ?_
    refine JL.q rfl rfl rfl (QW.extract (.tmp rfl) rfl) ?_
    refine JL.q rfl rfl rfl (QW.extract (.tmp rfl) rfl) ?_
    refine JL.q rfl rfl rfl (QW.extract (.tmp rfl) rfl) ?_
    refine JL.q rfl rfl rfl (QW.extract (.tmp rfl) rfl) ?_
    refine JL.alloc z58 rfl rfl fun b15 => ?_
    first | refine JL.store_boxF 0 ty58 (.tmp rfl) rfl (.tmp rfl) (by first | rfl | assumption) (rfl) (rfl) rfl ?_ | refine JL.store_boxF 0 ty58 (.tmp rfl) rfl (.tmp rfl) (by first | rfl | assumption) (rfl) (QT.cs_length _ _) rfl ?_ | refine JL.store_boxF 0 ty58 (.tmp rfl) rfl (.tmp rfl) (by first | rfl | assumption) (QT.cs_length _ _) (rfl) rfl ?_ | refine JL.store_boxF 0 ty58 (.tmp rfl) rfl (.tmp rfl) (by first | rfl | assumption) (QT.cs_length _ _) (QT.cs_length _ _) rfl ?_ | refine JL.store_box 0 ty58 (.tmp rfl) rfl (.tmp rfl) (by first | rfl | assumption) rfl rfl rfl rfl ?_ | refine JL.store_box 0 ty58 (.tmp rfl) rfl (.tmp rfl) (by first | rfl | assumption) (QT.cs_length _ _) rfl rfl rfl ?_
    refine JL.q rfl rfl rfl (QW.assign (.tmp rfl)) ?_
    refine JL.q rfl rfl rfl (QW.assign (.tmp rfl)) ?_
    refine JL.q rfl rfl rfl (QW.assign (.tmp rfl)) ?_
    refine JL.nil ?_
    refine thenQ.n ?_
    refine J.seq ?_
    refine J.region_lit ?_
    refine JL.q rfl rfl rfl (by first | exact QW.load_box 4 ty61 (.tmp rfl) rfl rfl rfl | exact QW.load_box 4 ty61 (.tmp rfl) rfl (take_at (QT.cs_length _ _) rfl) (QT.cs_length _ _)) ?_
    refine JL.q rfl rfl rfl (QW.move (.tmp rfl)) ?_
    refine JL.q rfl rfl rfl (QW.call gofn47 (.cons (.tmp rfl) (.cons (.tmp rfl) .nil)) (rqtake_ok (q := ⟨lim, la, l⟩) Qc.self n hw)) ?_
    refine JL.q rfl rfl rfl (QW.move (.tmp rfl)) ?_
    refine JL.q rfl rfl rfl (QW.extract (.tmp rfl) rfl) ?_
    refine JL.q rfl rfl rfl (QW.extract (.tmp rfl) rfl) ?_
    refine JL.q rfl rfl rfl (QW.extract (.tmp rfl) rfl) ?_
    refine JL.q rfl rfl rfl (QW.extract (.tmp rfl) rfl) ?_
    refine JL.alloc z61 rfl rfl fun b19 => ?_
    first | refine JL.store_boxF 0 ty61 (.tmp rfl) rfl (.tmp rfl) (by first | rfl | assumption) (rfl) (rfl) rfl ?_ | refine JL.store_boxF 0 ty61 (.tmp rfl) rfl (.tmp rfl) (by first | rfl | assumption) (rfl) (QT.cs_length _ _) rfl ?_ | refine JL.store_boxF 0 ty61 (.tmp rfl) rfl (.tmp rfl) (by first | rfl | assumption) (QT.cs_length _ _) (rfl) rfl ?_ | refine JL.store_boxF 0 ty61 (.tmp rfl) rfl (.tmp rfl) (by first | rfl | assumption) (QT.cs_length _ _) (QT.cs_length _ _) rfl ?_ | refine JL.store_box 0 ty61 (.tmp rfl) rfl (.tmp rfl) (by first | rfl | assumption) rfl rfl rfl rfl ?_ | refine JL.store_box 0 ty61 (.tmp rfl) rfl (.tmp rfl) (by first | rfl | assumption) (QT.cs_length _ _) rfl rfl rfl ?_
    refine JL.q rfl rfl rfl (QW.assign (.tmp rfl)) ?_
    refine JL.q rfl rfl rfl (QW.assign (.tmp rfl)) ?_
    refine JL.q rfl rfl rfl (QW.assign (.tmp rfl)) ?_
    refine JL.nil ?_
    refine thenQ.n ?_
    refine J.seq ?_
    refine J.region_lit ?_
    refine JL.q rfl rfl rfl (by first | exact QW.load_box 10 ty26 (.tmp rfl) rfl rfl rfl | exact QW.load_box 10 ty26 (.tmp rfl) rfl (take_at (V.cs_length _ _) rfl) (V.cs_length _ _)) ?_
    refine JL.callRF [.k, .k, .k, .k, .k, .k, .k, .p, .p] gofn32 rfl Lent.nil (fun _ => (.cons (.tmp rfl) .nil)) (spoil_ok hV30 hv) (.inl rfl) fun x65 o65 h65 => ?_
    obtain ⟨rfl, rfl⟩ := h65
    refine JL.nil ?_
    refine thenQ.n ?_
    refine J.seq ?_
    refine J.seq ?_
    obtain ⟨ce, ue, o1, p1, p2, p3, p4, p5, p6⟩ := hT27.inv
    rw [EvT.css_length] at p2
    refine J.reown (Reown.split2 (i := 6) rfl p6) ?_
    refine J.region_lit ?_
    refine JL.q rfl rfl rfl (QW.assign .const) ?_
    refine JL.nil ?_
    refine thenQ.n ?_
    refine J.block ?_
    refine J.loopK (ι := Nat × List (List AV) × List Value × Own) [6, 7, 9, 11, 12, 14, 15, 16, 18, 19, 20, 22] (fun ⟨j, ce2, us, o⟩ => [(23, .c (.int .i64 (j : Int)))]) (fun ⟨j, ce2, us, o⟩ oo => List.set (List.set oo 6 (.arr v27 eEv ce2)) 9 (o)) (fun ⟨j, ce2, us, o⟩ => ce2.length = l.length ∧ (∀ x ∈ ce2, x.length = 6) ∧ (ce2.drop j).flatten = us.map AV.c ∧ us.all (·.oneCell') = true ∧ TrL (EvT.css true (l.drop j)).flatten us o) (fun ⟨j, ce2, us, o⟩ => l.length - j) ⟨0, ce, ue, o1⟩ (⟨p2, p3, p1, p4, p5⟩) (Wk.re (.cons rfl (.refl _) (.cons rfl (.refl _) (.cons rfl (.refl _) (.cons rfl (.refl _) (.cons rfl (.refl _) (.cons rfl (.refl _) (.cons rfl (.refl _) (.cons rfl (.refl _) (.cons rfl (.refl _) (.cons rfl (.refl _) (.cons rfl (.refl _) (.cons rfl (.refl _) (.cons rfl (.refl _) .nil))))))))))))) (Reown.refl _) (fun _ h => by first | exact h | simp [h])) ?_
    intro ⟨j, ce2, us, o⟩ ⟨hcl, hc5, hcf, hu1, hT⟩
    refine J.conv (by (try simp only [stepsO, List.map_cons, List.map_nil, valO, nthO, curO, mrg, List.reverse_cons, List.reverse_nil, List.nil_append, List.cons_append, List.append_nil, List.getElem?_cons_zero, List.getElem?_cons_succ, Option.map_some, Option.getD_some, List.set_cons_zero, List.set_cons_succ, AV.cellsOf, splice_zero, splice_succ, Nat.zero_add, Nat.reduceAdd]); rfl) ?_
    refine J.seq ?_
    refine J.seq ?_
    refine J.region_lit ?_
    refine JL.q rfl rfl rfl (QW.move (.tmp rfl)) ?_
    refine JL.q rfl rfl rfl (QW.field_ptr fo58_2 (.tmp rfl) rfl) ?_
    refine JL.q rfl rfl rfl (QW.load_box1 7 ty56 (.tmp rfl) rfl rfl) ?_
    refine JL.q rfl rfl rfl (QW.len_arr 6 sl56 (.tmp rfl) rfl) ?_
    refine JL.q rfl rfl rfl (QW.lss (.tmp rfl) (.tmp rfl)) ?_
    refine JL.nil ?_
    refine thenQ.n ?_
    refine J.cond (.tmp rfl) (fun c2 => ?_) (fun c2 => ?_)
    · skip
      have hlt : j < l.length := by (simp at c2; omega)
      refine J.skip ?_
      refine thenQ.n ?_
      refine J.seq ?_
      refine J.block ?_
      refine J.seq ?_
      obtain ⟨kv2, iv2, ok2, oi2, us2, o2, g1, hV2, g3, g4, g5, g6⟩ := evs_take hlt hcl hc5 hcf hu1 hT
      refine J.reown (Reown.cons (Reown.cons (Reown.cons (Reown.cons (Reown.cons (Reown.cons (Reown.cons (Reown.cons (Reown.cons g6))))))))) ?_
      refine J.region_lit ?_
      refine JL.q rfl rfl rfl (QW.field_ptr fo58_2 (.tmp rfl) rfl) ?_
      refine JL.q rfl rfl rfl (QW.load_box1 7 ty56 (.tmp rfl) rfl rfl) ?_
      refine JL.q rfl rfl rfl (QW.move (.tmp rfl)) ?_
      refine JL.q rfl rfl rfl (QW.index_arr 6 sl56 ty70 rfl (.tmp rfl) rfl (.tmp rfl) (by first | rfl | omega | (simp; done)) (by first | omega | (simp; omega)) rfl) ?_
      refine JL.q rfl rfl rfl (QW.field_gp fo70_1 (.tmp rfl) rfl) ?_
      refine JL.q rfl rfl rfl (by first | exact QW.load_gp 6 ty26 (.tmp rfl) rfl (by exact g1) rfl rfl rfl | exact QW.load_gp (o := 0) 6 ty26 (.tmp rfl) rfl (by exact g1) rfl rfl rfl | exact QW.load_gp (o := 1) 6 ty26 (.tmp rfl) rfl (by exact g1) rfl rfl rfl | exact QW.load_gp (o := 2) 6 ty26 (.tmp rfl) rfl (by exact g1) rfl rfl rfl | exact QW.load_gp 6 ty26 (.tmp rfl) rfl (by exact g1) rfl (take_full (V.cs_length _ _)) (V.cs_length _ _)) ?_
      refine JL.callRF [.k, .k, .k, .k, .k, .k, .k, .k, .k, .p, .p] gofn32 rfl Lent.nil (fun _ => (.cons (.tmp rfl) .nil)) (spoil_ok hV2 (hlw.2 _ (List.getElem_mem hlt)).arg) (.inl rfl) fun x79 o79 h79 => ?_
      obtain ⟨rfl, rfl⟩ := h79
      refine JL.nil ?_
      refine thenQ.n ?_
      refine J.region_lit ?_
      refine JL.q rfl rfl rfl (QW.field_ptr fo58_2 (.tmp rfl) rfl) ?_
      refine JL.q rfl rfl rfl (QW.load_box1 7 ty56 (.tmp rfl) rfl rfl) ?_
      refine JL.q rfl rfl rfl (QW.move (.tmp rfl)) ?_
      refine JL.q rfl rfl rfl (QW.index_arr 6 sl56 ty70 rfl (.tmp rfl) rfl (.tmp rfl) (by first | rfl | omega | (simp; done)) (by first | omega | (simp; omega)) rfl) ?_
      refine JL.q rfl rfl rfl (QW.field_gp fo70_0 (.tmp rfl) rfl) ?_
      refine JL.store_gp 6 ty9 (.tmp rfl) rfl g1 rfl .const rfl rfl rfl rfl rfl ?_
      refine JL.nil ?_
      refine blkQ.n ?_
      refine thenQ.n ?_
      refine J.region_lit ?_
      refine JL.q rfl rfl rfl (QW.move (.tmp rfl)) ?_
      refine JL.q rfl rfl rfl (QW.add (.tmp rfl) .const (by first | exact w64n (by first | rfl | omega | (simp; done)) (by omega) | exact w64 (by omega) | rfl)) ?_
      refine JL.q rfl rfl rfl (QW.assign (.tmp rfl)) ?_
      refine JL.nil ?_
      refine thenQ.n ?_
      exact ⟨⟨j + 1, ce2.set j (.c (str []) :: (l[j]'hlt).arg.raw kv2 iv2), us2, o2⟩, ⟨by simp [hcl], fun x hx => (List.mem_or_eq_of_mem_set hx).elim (hc5 x) (fun h => by rw [h]; rfl), by rw [List.drop_set_of_lt (by omega)]; exact g3, g4, g5⟩, by simp; omega, Wk.re (.cons rfl (.refl _) (.cons rfl (.refl _) (.cons rfl (.refl _) (.cons rfl (.refl _) (.cons rfl (.refl _) (.cons rfl (.refl _) (.cons rfl (.refl _) (.cons rfl (.refl _) (.cons rfl (.refl _) (.cons rfl (.refl _) (.cons rfl (.refl _) (.cons rfl (.refl _) (.cons rfl (.refl _) .nil))))))))))))) (Reown.refl _) (fun _ h => by first | exact h | simp [h])⟩
    · skip
      skip
      refine J.exit ?_
      refine thenQ.x ?_
      refine thenQ.x ?_
      refine blkQ.hit ?_
      refine thenQ.n ?_
      refine J.seq ?_
      refine J.region_lit ?_
      refine JL.q rfl rfl rfl (by first | exact QW.load_box 3 ty58 (.tmp rfl) rfl rfl rfl | exact QW.load_box 3 ty58 (.tmp rfl) rfl (take_at (QT.cs_length _ _) rfl) (QT.cs_length _ _)) ?_
      refine JL.q rfl rfl rfl (by first | exact QW.load_box 2 ty61 (.tmp rfl) rfl rfl rfl | exact QW.load_box 2 ty61 (.tmp rfl) rfl (take_at (QT.cs_length _ _) rfl) (QT.cs_length _ _)) ?_
      refine JL.q rfl rfl rfl (QW.call gofn39 (.cons (.tmp rfl) (.cons (.tmp rfl) .nil)) (alike18_ok Qc.self Qc.self hpw hpw)) ?_
      refine JL.q rfl rfl rfl (QW.eql (.tmp rfl) .const) ?_
      refine JL.q rfl rfl rfl (QW.move (.tmp rfl)) ?_
      refine JL.g rfl rfl rfl rfl rfl (fun hg => (QW.move (.tmp rfl))) ?_
      refine JL.g rfl rfl rfl rfl rfl (fun hg => (QW.call gofn40 (.cons (.when rfl hg) .nil) (num18_ok _))) ?_
      refine JL.g rfl rfl rfl rfl rfl (fun hg => (QW.move (.tmp rfl))) ?_
      refine JL.g rfl rfl rfl rfl rfl (fun hg => (QW.eql (.when rfl hg) (.when rfl hg))) ?_
      refine JL.q rfl rfl rfl (QW.pick_and (.tmp rfl) (.tmp rfl)) ?_
      refine JL.q rfl rfl rfl (QW.move (.tmp rfl)) ?_
      refine JL.g rfl rfl rfl rfl rfl (fun hg => (by first | exact QW.load_box 1 ty58 (.tmp rfl) rfl rfl rfl | exact QW.load_box 1 ty58 (.tmp rfl) rfl (take_at (QT.cs_length _ _) rfl) (QT.cs_length _ _))) ?_
      refine JL.g rfl rfl rfl rfl rfl (fun hg => (by first | exact QW.load_box 0 ty61 (.tmp rfl) rfl rfl rfl | exact QW.load_box 0 ty61 (.tmp rfl) rfl (take_at (QT.cs_length _ _) rfl) (QT.cs_length _ _))) ?_
      refine JL.g rfl rfl rfl rfl rfl (fun hg => (QW.call gofn39 (.cons (.when rfl hg) (.cons (.when rfl hg) .nil)) (alike18_ok Qc.self Qc.self htw htw))) ?_
      refine JL.g rfl rfl rfl rfl rfl (fun hg => (QW.eql (.when rfl hg) .const)) ?_
      refine JL.q rfl rfl rfl (QW.pick_and (.tmp rfl) (.tmp rfl)) ?_
      refine JL.q rfl rfl rfl (QW.move (.tmp rfl)) ?_
      refine JL.g rfl rfl rfl rfl rfl (fun hg => (QW.move (.tmp rfl))) ?_
      refine JL.g rfl rfl rfl rfl rfl (fun hg => (QW.move (.tmp rfl))) ?_
      refine JL.g rfl rfl rfl rfl rfl (fun hg => (QW.call gofn44 (.cons (.when rfl hg) (.cons (.when rfl hg) .nil)) (sameEvents_ok htl htl))) ?_
      refine JL.q rfl rfl rfl (QW.pick_and (.tmp rfl) (.tmp rfl)) ?_
      refine JL.q rfl rfl rfl (QW.move (.tmp rfl)) ?_
      refine JL.g rfl rfl rfl rfl rfl (fun hg => (QW.move (.tmp rfl))) ?_
      refine JL.g rfl rfl rfl rfl rfl (fun hg => (QW.call gofn40 (.cons (.when rfl hg) .nil) (num18_ok _))) ?_
      refine JL.g rfl rfl rfl rfl rfl (fun hg => (QW.move (.tmp rfl))) ?_
      refine JL.g rfl rfl rfl rfl rfl (fun hg => (QW.eql (.when rfl hg) (.when rfl hg))) ?_
      refine JL.q rfl rfl rfl (QW.pick_and (.tmp rfl) (.tmp rfl)) ?_
      refine JL.q rfl rfl rfl (QW.assign (.tmp rfl)) ?_
      refine JL.nil ?_
      refine thenQ.n ?_
      refine J.ret ?_
      exact ⟨_, selP [.k, .k, .k, .k, .k, .k, .k, .k, .k, .k] _, _, RetEv.one rfl (REv.tmp rfl (.refl _)), rfl, sel_perm [.k, .k, .k, .k, .k, .k, .k, .k, .k, .k] _, ⟨ret_b (by simp), rfl⟩⟩

end Go.Proofs.Ytkiankpmkglhcaa.J

/- Walks: OutboxOwn. -/
namespace Go.Proofs.Ytkiankpmkglhcaa.J
open Go Go.RowKit
set_option linter.unusedVariables false
set_option linter.unusedSimpArgs false
set_option maxRecDepth 10000
set_option maxHeartbeats 4000000

theorem BT.cs_fresh : ∀ q : BT, Fresh (.agg (q.cs true))
  | ⟨_, l⟩ => .agg (FlL.cons (.c _) (FlL.cons (its_fresh l false) .nil))
theorem addAV_fresh (q : BT) (s : Int) (m : List EvT) : Fresh (addAV q s m) := .tup (FlL.cons (BT.cs_fresh _) (FlL.cons (.c _) .nil))
theorem nextAV_fresh (q : BT) (n : Int) : Fresh (nextAV q n) := .tup (FlL.cons (its_fresh _ false) (FlL.cons (.c _) .nil))
theorem its_take {l : List ItT} {cs : List (List AV)} {us : List Value} {o : Own} {j : Nat} (hlt : j < l.length) (hl : cs.length = l.length) (h3 : ∀ x ∈ cs, x.length = 7) (hf : (cs.drop j).flatten = us.map AV.c) (h1 : us.all (·.oneCell') = true) (h : TrL (ItT.css true (l.drop j)).flatten us o) :
    ∃ kv iv ok oi us2 o2, cs[j]? = some ((l[j]'hlt).raw kv iv) ∧ VTr (l[j]'hlt).ev.arg kv iv ok oi ∧ (cs.drop (j + 1)).flatten = us2.map AV.c ∧ us2.all (·.oneCell') = true ∧ TrL (ItT.css true (l.drop (j + 1))).flatten us2 o2 ∧ Reown [o] [ok, oi, o2] := by
  rw [List.drop_eq_getElem_cons hlt, show ItT.css true (l[j] :: l.drop (j + 1)) = l[j].cs true :: ItT.css true (l.drop (j + 1)) from rfl, List.flatten_cons] at h
  obtain ⟨u1, u2, o1, o2, rfl, f1, g2, g3⟩ := h.split
  rw [List.all_append, Bool.and_eq_true] at h1
  obtain ⟨w0, w1, a0, b0, rfl, k0, f2, k1⟩ := f1.cons_inv
  obtain ⟨u0, u1', a1, b1, rfl, k2, g1, k3⟩ := f2.cons_inv
  obtain rfl := k0.c_inv
  obtain rfl := k2.c_inv
  have h1' := h1.1
  rw [List.all_cons, List.all_cons, Bool.and_eq_true, Bool.and_eq_true] at h1'
  obtain ⟨kv, iv, ok, oi, rfl, hV, hR⟩ := g1.value h1'.2.2
  have hj : j < cs.length := by omega
  rw [List.drop_eq_getElem_cons hj] at hf
  obtain ⟨m1, m2⟩ := flat_first hf (by rw [h3 _ (List.getElem_mem hj)]; rfl)
  refine ⟨kv, iv, ok, oi, u2, o2, by rw [List.getElem?_eq_getElem hj, m1]; rfl, hV, m2, h1.2, g2, ?_⟩
  have s1 : Reown [o] [o1, o2] := Reown.pair g3
  have s0 : Reown [o1] [b0] := (Reown.pair k1).trans (Reown.dropN 1 _ rfl)
  have s0' : Reown [b0] [b1] := (Reown.pair k3).trans (Reown.dropN 1 _ rfl)
  have s2 : Reown [o1, o2] [ok, oi, o2] := (Reown.perm (List.Perm.swap _ _ _)).trans ((Reown.left (c := [o2]) (s0.trans (s0'.trans hR))).trans (Reown.perm (by
    simpa using (List.perm_append_comm (l₁ := [o2]) (l₂ := [ok, oi])))))
  exact s1.trans s2

theorem outboxOwn_ok {q : BT} {seq : Int} {m : List EvT} (hw : q.wf) (hm : EvT.wfs m) : Fn Try.prog 17 [.agg (q.cs false), .c (.int .i64 seq), .sl false false eEv (EvT.css false m)] (.c (.bool true)) := by
  obtain ⟨la, l⟩ := q
  have hlw := hw.it
  simp only at hlw
  have hln := hlw.len
  have hml := hm.len
  have haw := BT.add_wf1 (seq := seq) hw hm
  have hnw := BT.next_wf (n := 1000) hw
  refine AC.of_J Try.func17 rfl Try.ntmps17 rfl fun w0 A0 => ?_
  refine J.seq ?_
  refine J.region_lit ?_
  refine JL.box_agg (.tmp rfl) rfl fun b3 => ?_
  refine JL.q rfl rfl rfl (QW.assign .const) ?_
  refine JL.nil ?_
  refine thenQ.n ?_
  refine J.seq ?_
  refine J.seq ?_
  refine J.region_lit ?_
  refine JL.q rfl rfl rfl (QW.call gofn66 .nil (alive08_ok)) ?_
  refine JL.q rfl rfl rfl (QW.not (.tmp rfl)) ?_
  refine JL.nil ?_
  refine thenQ.n ?_
  refine J.cond (.tmp rfl) (fun c1 => ?_) (fun c1 => ?_)
  · skip
    exact absurd c1 (by simp)
    --closed
  · skip
    skip
    refine J.skip ?_
    refine thenQ.n ?_
    refine J.seq ?_
    refine J.region_lit ?_
    refine JL.q rfl rfl rfl (by first | exact QW.load_box 0 ty90 (.tmp rfl) rfl rfl rfl | exact QW.load_box 0 ty90 (.tmp rfl) rfl (take_at (BT.cs_length _ _) rfl) (BT.cs_length _ _)) ?_
    refine JL.callRF [] gofn52 rfl Lent.nil (fun _ => (.cons (.tmp rfl) .nil)) (of08_own Bc.self hw) (.inl rfl) fun x22 o22 h22 => ?_
    obtain ⟨v22, ov22, rfl, hs22, rfl, hT22⟩ := h22
    refine JL.q rfl rfl rfl (QW.move (.tmp rfl)) ?_
    refine JL.callRF [] gofn53 rfl Lent.nil (fun _ => (.cons (.tmp rfl) .nil)) (copyEffects_ok hm) (.inl rfl) fun x24 o24 h24 => ?_
    obtain ⟨v24, ov24, rfl, hs24, rfl, hT24⟩ := h24
    refine JL.alloc z92 rfl rfl fun b7 => ?_
    first | refine JL.store_boxF 0 ty92 (.tmp rfl) rfl (.tmp rfl) (by first | rfl | assumption) (rfl) (rfl) rfl ?_ | refine JL.store_boxF 0 ty92 (.tmp rfl) rfl (.tmp rfl) (by first | rfl | assumption) (rfl) (BT.cs_length _ _) rfl ?_ | refine JL.store_boxF 0 ty92 (.tmp rfl) rfl (.tmp rfl) (by first | rfl | assumption) (BT.cs_length _ _) (rfl) rfl ?_ | refine JL.store_boxF 0 ty92 (.tmp rfl) rfl (.tmp rfl) (by first | rfl | assumption) (BT.cs_length _ _) (BT.cs_length _ _) rfl ?_ | refine JL.store_box 0 ty92 (.tmp rfl) rfl (.tmp rfl) (by first | rfl | assumption) rfl rfl rfl rfl ?_ | refine JL.store_box 0 ty92 (.tmp rfl) rfl (.tmp rfl) (by first | rfl | assumption) (BT.cs_length _ _) rfl rfl rfl ?_
    refine JL.q rfl rfl rfl (QW.assign (.tmp rfl)) ?_
    refine JL.nil ?_
    refine thenQ.n ?_
    refine J.seq ?_
    refine J.region_lit ?_
    refine JL.q rfl rfl rfl (by first | exact QW.load_box 0 ty92 (.tmp rfl) rfl rfl rfl | exact QW.load_box 0 ty92 (.tmp rfl) rfl (take_at (BT.cs_length _ _) rfl) (BT.cs_length _ _)) ?_
    refine JL.q rfl rfl rfl (QW.move (.tmp rfl)) ?_
    refine JL.q rfl rfl rfl (QW.move (.tmp rfl)) ?_
    refine JL.q rfl rfl rfl (QW.callLF [.k, .k, .l, .l] gofn54 (Lent.cons (hT22.lent (its_le true false false (fun h => by cases h) _) (its_low _)) (Lent.cons (hT24.lent (events_le true false false (fun h => by cases h) _) (events_low _)) Lent.nil)) rfl rfl (fun _ => (.cons (Ev.le (.tmp rfl) (.aggL (.cons (.refl _) (.cons (.fact (.head _) (.refl _)) .nil)))) (.cons (.tmp rfl) (.cons (Ev.le (.tmp rfl) (.fact (.tail _ (.head _)) (.refl _))) .nil)))) (badd_ok (fr := false) (fr2 := false) (c2 := false) (q := ⟨la, l⟩) (m := m) Bc.self seq hw hm) (addAV_fresh _ _ _)) ?_
    refine JL.q rfl rfl rfl (QW.move (.tmp rfl)) ?_
    refine JL.q rfl rfl rfl (QW.extract (.tmp rfl) rfl) ?_
    refine JL.q rfl rfl rfl (QW.extract (.tmp rfl) rfl) ?_
    refine JL.alloc z92 rfl rfl fun b9 => ?_
    first | refine JL.store_boxF 0 ty92 (.tmp rfl) rfl (.tmp rfl) (by first | rfl | assumption) (rfl) (rfl) rfl ?_ | refine JL.store_boxF 0 ty92 (.tmp rfl) rfl (.tmp rfl) (by first | rfl | assumption) (rfl) (BT.cs_length _ _) rfl ?_ | refine JL.store_boxF 0 ty92 (.tmp rfl) rfl (.tmp rfl) (by first | rfl | assumption) (BT.cs_length _ _) (rfl) rfl ?_ | refine JL.store_boxF 0 ty92 (.tmp rfl) rfl (.tmp rfl) (by first | rfl | assumption) (BT.cs_length _ _) (BT.cs_length _ _) rfl ?_ | refine JL.store_box 0 ty92 (.tmp rfl) rfl (.tmp rfl) (by first | rfl | assumption) rfl rfl rfl rfl ?_ | refine JL.store_box 0 ty92 (.tmp rfl) rfl (.tmp rfl) (by first | rfl | assumption) (BT.cs_length _ _) rfl rfl rfl ?_
    refine JL.q rfl rfl rfl (QW.assign (.tmp rfl)) ?_
    refine JL.nil ?_
    refine thenQ.n ?_
    refine J.seq ?_
    refine J.region_lit ?_
    refine JL.q rfl rfl rfl (by first | exact QW.load_box 2 ty90 (.tmp rfl) rfl rfl rfl | exact QW.load_box 2 ty90 (.tmp rfl) rfl (take_at (BT.cs_length _ _) rfl) (BT.cs_length _ _)) ?_
    refine JL.q rfl rfl rfl (QW.move (.tmp rfl)) ?_
    refine JL.q rfl rfl rfl (QW.move (.tmp rfl)) ?_
    refine JL.q rfl rfl rfl (QW.call gofn55 (.cons (.tmp rfl) (.cons (.tmp rfl) (.cons (.tmp rfl) .nil))) (rbadd_ok (q := ⟨la, l⟩) (m := m) Bc.self seq hw hm)) ?_
    refine JL.q rfl rfl rfl (QW.move (.tmp rfl)) ?_
    refine JL.q rfl rfl rfl (QW.extract (.tmp rfl) rfl) ?_
    refine JL.q rfl rfl rfl (QW.extract (.tmp rfl) rfl) ?_
    refine JL.alloc z90 rfl rfl fun b11 => ?_
    first | refine JL.store_boxF 0 ty90 (.tmp rfl) rfl (.tmp rfl) (by first | rfl | assumption) (rfl) (rfl) rfl ?_ | refine JL.store_boxF 0 ty90 (.tmp rfl) rfl (.tmp rfl) (by first | rfl | assumption) (rfl) (BT.cs_length _ _) rfl ?_ | refine JL.store_boxF 0 ty90 (.tmp rfl) rfl (.tmp rfl) (by first | rfl | assumption) (BT.cs_length _ _) (rfl) rfl ?_ | refine JL.store_boxF 0 ty90 (.tmp rfl) rfl (.tmp rfl) (by first | rfl | assumption) (BT.cs_length _ _) (BT.cs_length _ _) rfl ?_ | refine JL.store_box 0 ty90 (.tmp rfl) rfl (.tmp rfl) (by first | rfl | assumption) rfl rfl rfl rfl ?_ | refine JL.store_box 0 ty90 (.tmp rfl) rfl (.tmp rfl) (by first | rfl | assumption) (BT.cs_length _ _) rfl rfl rfl ?_
    refine JL.q rfl rfl rfl (QW.assign (.tmp rfl)) ?_
    refine JL.nil ?_
    refine thenQ.n ?_
    refine J.seq ?_
    refine J.region_lit ?_
    refine JL.q rfl rfl rfl (by first | exact QW.load_box 2 ty92 (.tmp rfl) rfl rfl rfl | exact QW.load_box 2 ty92 (.tmp rfl) rfl (take_at (BT.cs_length _ _) rfl) (BT.cs_length _ _)) ?_
    refine JL.q rfl rfl rfl (QW.callLF [.k, .k, .k, .k, .l] gofn58 (Lent.cons (hT22.lent (its_le true false false (fun h => by cases h) _) (its_low _)) Lent.nil) rfl rfl (fun _ => (.cons (Ev.le (.tmp rfl) (.aggL (.cons (.refl _) (.cons (.fact (.head _) (.refl _)) .nil)))) (.cons .const .nil))) (bnext_ok (fr := false) (q := ⟨la, l⟩) Bc.self 1000 hw) (nextAV_fresh _ _)) ?_
    refine JL.q rfl rfl rfl (QW.move (.tmp rfl)) ?_
    refine JL.q rfl rfl rfl (QW.extract (.tmp rfl) rfl) ?_
    refine JL.q rfl rfl rfl (QW.extract (.tmp rfl) rfl) ?_
    refine JL.q rfl rfl rfl (QW.assign (.tmp rfl)) ?_
    refine JL.q rfl rfl rfl (QW.assign (.tmp rfl)) ?_
    refine JL.nil ?_
    refine thenQ.n ?_
    refine J.seq ?_
    refine J.region_lit ?_
    refine JL.q rfl rfl rfl (by first | exact QW.load_box 3 ty90 (.tmp rfl) rfl rfl rfl | exact QW.load_box 3 ty90 (.tmp rfl) rfl (take_at (BT.cs_length _ _) rfl) (BT.cs_length _ _)) ?_
    refine JL.q rfl rfl rfl (QW.call gofn59 (.cons (.tmp rfl) (.cons .const .nil)) (rbnext_ok (q := ⟨la, l⟩) Bc.self 1000 hw)) ?_
    refine JL.q rfl rfl rfl (QW.move (.tmp rfl)) ?_
    refine JL.q rfl rfl rfl (QW.extract (.tmp rfl) rfl) ?_
    refine JL.q rfl rfl rfl (QW.extract (.tmp rfl) rfl) ?_
    refine JL.q rfl rfl rfl (QW.assign (.tmp rfl)) ?_
    refine JL.q rfl rfl rfl (QW.assign (.tmp rfl)) ?_
    refine JL.nil ?_
    refine thenQ.n ?_
    refine J.seq ?_
    refine J.seq ?_
    obtain ⟨ce, ue, o1, p1, p2, p3, p4, p5, p6⟩ := hT22.inv
    rw [ItT.css_length] at p2
    refine J.reown (Reown.split2 (i := 4) rfl p6) ?_
    refine J.region_lit ?_
    refine JL.q rfl rfl rfl (QW.assign .const) ?_
    refine JL.nil ?_
    refine thenQ.n ?_
    refine J.block ?_
    refine J.loopK (ι := Nat × List (List AV) × List Value × Own) [6, 7, 8, 9, 10, 11, 12, 13, 14, 15, 16] (fun ⟨j, ce2, us, o⟩ => [(17, .c (.int .i64 (j : Int)))]) (fun ⟨j, ce2, us, o⟩ oo => List.set (List.set oo 4 (.arr v22 eIt ce2)) 6 (o)) (fun ⟨j, ce2, us, o⟩ => ce2.length = l.length ∧ (∀ x ∈ ce2, x.length = 7) ∧ (ce2.drop j).flatten = us.map AV.c ∧ us.all (·.oneCell') = true ∧ TrL (ItT.css true (l.drop j)).flatten us o) (fun ⟨j, ce2, us, o⟩ => l.length - j) ⟨0, ce, ue, o1⟩ (⟨p2, p3, p1, p4, p5⟩) (Wk.re (.cons rfl (.refl _) (.cons rfl (.refl _) (.cons rfl (.refl _) (.cons rfl (.refl _) (.cons rfl (.refl _) (.cons rfl (.refl _) (.cons rfl (.refl _) (.cons rfl (.refl _) (.cons rfl (.refl _) (.cons rfl (.refl _) (.cons rfl (.refl _) (.cons rfl (.refl _) .nil)))))))))))) (Reown.refl _) (fun _ h => by first | exact h | simp [h])) ?_
    intro ⟨j, ce2, us, o⟩ ⟨hcl, hc5, hcf, hu1, hT⟩
    refine J.conv (by (try simp only [stepsO, List.map_cons, List.map_nil, valO, nthO, curO, mrg, List.reverse_cons, List.reverse_nil, List.nil_append, List.cons_append, List.append_nil, List.getElem?_cons_zero, List.getElem?_cons_succ, Option.map_some, Option.getD_some, List.set_cons_zero, List.set_cons_succ, AV.cellsOf, splice_zero, splice_succ, Nat.zero_add, Nat.reduceAdd]); rfl) ?_
    refine J.seq ?_
    refine J.seq ?_
    refine J.region_lit ?_
    refine JL.q rfl rfl rfl (QW.move (.tmp rfl)) ?_
    refine JL.q rfl rfl rfl (QW.field_ptr fo92_1 (.tmp rfl) rfl) ?_
    refine JL.q rfl rfl rfl (QW.load_box1 2 ty88 (.tmp rfl) rfl rfl) ?_
    refine JL.q rfl rfl rfl (QW.len_arr 4 sl88 (.tmp rfl) rfl) ?_
    refine JL.q rfl rfl rfl (QW.lss (.tmp rfl) (.tmp rfl)) ?_
    refine JL.nil ?_
    refine thenQ.n ?_
    refine J.cond (.tmp rfl) (fun c2 => ?_) (fun c2 => ?_)
    · skip
      have hlt : j < l.length := by (simp at c2; omega)
      refine J.skip ?_
      refine thenQ.n ?_
      refine J.seq ?_
      refine J.block ?_
      refine J.seq ?_
      obtain ⟨kv2, iv2, ok2, oi2, us2, o2, g1, hV2, g3, g4, g5, g6⟩ := its_take hlt hcl hc5 hcf hu1 hT
      refine J.reown (Reown.cons (Reown.cons (Reown.cons (Reown.cons (Reown.cons (Reown.cons g6)))))) ?_
      refine J.region_lit ?_
      refine JL.q rfl rfl rfl (QW.field_ptr fo92_1 (.tmp rfl) rfl) ?_
      refine JL.q rfl rfl rfl (QW.load_box1 2 ty88 (.tmp rfl) rfl rfl) ?_
      refine JL.q rfl rfl rfl (QW.move (.tmp rfl)) ?_
      refine JL.q rfl rfl rfl (QW.index_arr 4 sl88 ty116 rfl (.tmp rfl) rfl (.tmp rfl) (by first | rfl | omega | (simp; done)) (by first | omega | (simp; omega)) rfl) ?_
      refine JL.q rfl rfl rfl (QW.field_gp fo116_1 (.tmp rfl) rfl) ?_
      refine JL.q rfl rfl rfl (QW.field_gp fo114_1 (.tmp rfl) rfl) ?_
      refine JL.q rfl rfl rfl (by first | exact QW.load_gp 4 ty26 (.tmp rfl) rfl (by exact g1) rfl rfl rfl | exact QW.load_gp (o := 0) 4 ty26 (.tmp rfl) rfl (by exact g1) rfl rfl rfl | exact QW.load_gp (o := 1) 4 ty26 (.tmp rfl) rfl (by exact g1) rfl rfl rfl | exact QW.load_gp (o := 2) 4 ty26 (.tmp rfl) rfl (by exact g1) rfl rfl rfl | exact QW.load_gp 4 ty26 (.tmp rfl) rfl (by exact g1) rfl (take_full (V.cs_length _ _)) (V.cs_length _ _)) ?_
      refine JL.callRF [.k, .k, .k, .k, .k, .k, .p, .p] gofn32 rfl Lent.nil (fun _ => (.cons (.tmp rfl) .nil)) (spoil_ok hV2 (hlw.2 _ (List.getElem_mem hlt)).ev.arg) (.inl rfl) fun x63 o63 h63 => ?_
      obtain ⟨rfl, rfl⟩ := h63
      refine JL.nil ?_
      refine thenQ.n ?_
      refine J.region_lit ?_
      refine JL.q rfl rfl rfl (QW.field_ptr fo92_1 (.tmp rfl) rfl) ?_
      refine JL.q rfl rfl rfl (QW.load_box1 2 ty88 (.tmp rfl) rfl rfl) ?_
      refine JL.q rfl rfl rfl (QW.move (.tmp rfl)) ?_
      refine JL.q rfl rfl rfl (QW.index_arr 4 sl88 ty116 rfl (.tmp rfl) rfl (.tmp rfl) (by first | rfl | omega | (simp; done)) (by first | omega | (simp; omega)) rfl) ?_
      refine JL.q rfl rfl rfl (QW.field_gp fo116_0 (.tmp rfl) rfl) ?_
      refine JL.store_gp 4 ty3 (.tmp rfl) rfl g1 rfl .const rfl rfl rfl rfl rfl ?_
      refine JL.nil ?_
      refine blkQ.n ?_
      refine thenQ.n ?_
      refine J.region_lit ?_
      refine JL.q rfl rfl rfl (QW.move (.tmp rfl)) ?_
      refine JL.q rfl rfl rfl (QW.add (.tmp rfl) .const (by first | exact w64n (by first | rfl | omega | (simp; done)) (by omega) | exact w64 (by omega) | rfl)) ?_
      refine JL.q rfl rfl rfl (QW.assign (.tmp rfl)) ?_
      refine JL.nil ?_
      refine thenQ.n ?_
      exact ⟨⟨j + 1, ce2.set j (.c (.int .i64 (-1)) :: (l[j]'hlt).ev.raw kv2 iv2), us2, o2⟩, ⟨by simp [hcl], fun x hx => (List.mem_or_eq_of_mem_set hx).elim (hc5 x) (fun h => by rw [h]; rfl), by rw [List.drop_set_of_lt (by omega)]; exact g3, g4, g5⟩, by simp; omega, Wk.re (.cons rfl (.refl _) (.cons rfl (.refl _) (.cons rfl (.refl _) (.cons rfl (.refl _) (.cons rfl (.refl _) (.cons rfl (.refl _) (.cons rfl (.refl _) (.cons rfl (.refl _) (.cons rfl (.refl _) (.cons rfl (.refl _) (.cons rfl (.refl _) (.cons rfl (.refl _) .nil)))))))))))) (Reown.refl _) (fun _ h => by first | exact h | simp [h])⟩
    · skip
      skip
      refine J.exit ?_
      refine thenQ.x ?_
      refine thenQ.x ?_
      refine blkQ.hit ?_
      refine thenQ.n ?_
      refine J.seq ?_
      refine J.seq ?_
      obtain ⟨cm, um, q1, r1, r2, r3, r4, r5, r6⟩ := hT24.inv
      rw [EvT.css_length] at r2
      refine J.reown (Reown.split2 (i := 5) rfl r6) ?_
      refine J.region_lit ?_
      refine JL.q rfl rfl rfl (QW.assign .const) ?_
      refine JL.nil ?_
      refine thenQ.n ?_
      refine J.block ?_
      refine J.loopK (ι := Nat × List Value × Own) [6, 8, 9, 10, 11, 12, 13, 14, 15, 16] (fun ⟨j, us, o⟩ => [(18, .c (.int .i64 (j : Int)))]) (fun ⟨j, us, o⟩ oo => List.set oo 7 (o)) (fun ⟨j, us, o⟩ => cm.length = m.length ∧ (cm.drop j).flatten = us.map AV.c ∧ us.all (·.oneCell') = true ∧ TrL (EvT.css true (m.drop j)).flatten us o) (fun ⟨j, us, o⟩ => m.length - j) ⟨0, um, q1⟩ (⟨r2, r1, r4, r5⟩) (Wk.re (.cons rfl (.refl _) (.cons rfl (.refl _) (.cons rfl (.refl _) (.cons rfl (.refl _) (.cons rfl (.refl _) (.cons rfl (.refl _) (.cons rfl (.refl _) (.cons rfl (.refl _) (.cons rfl (.refl _) (.cons rfl (.refl _) (.cons rfl (.refl _) .nil))))))))))) (Reown.refl _) (fun _ h => by first | exact h | simp [h])) ?_
      intro ⟨j, us, o⟩ ⟨hcl2, hcf2, hu2, hT2⟩
      refine J.conv (by (try simp only [stepsO, List.map_cons, List.map_nil, valO, nthO, curO, mrg, List.reverse_cons, List.reverse_nil, List.nil_append, List.cons_append, List.append_nil, List.getElem?_cons_zero, List.getElem?_cons_succ, Option.map_some, Option.getD_some, List.set_cons_zero, List.set_cons_succ, AV.cellsOf, splice_zero, splice_succ, Nat.zero_add, Nat.reduceAdd]); rfl) ?_
      refine J.seq ?_
      refine J.seq ?_
      refine J.region_lit ?_
      refine JL.q rfl rfl rfl (QW.move (.tmp rfl)) ?_
      refine JL.q rfl rfl rfl (QW.move (.tmp rfl)) ?_
      refine JL.q rfl rfl rfl (QW.len_arr 5 sl91 (.tmp rfl) rfl) ?_
      refine JL.q rfl rfl rfl (QW.lss (.tmp rfl) (.tmp rfl)) ?_
      refine JL.nil ?_
      refine thenQ.n ?_
      refine J.cond (.tmp rfl) (fun c3 => ?_) (fun c3 => ?_)
      · skip
        have hlt2 : j < m.length := by (simp at c3; omega)
        refine J.skip ?_
        refine thenQ.n ?_
        refine J.seq ?_
        refine J.block ?_
        obtain ⟨kv3, iv3, ok3, oi3, us3, o3, y1, hV3, y3, y4, y5, y6⟩ := evs_take hlt2 hcl2 r3 hcf2 hu2 hT2
        refine J.reown (Reown.cons (Reown.cons (Reown.cons (Reown.cons (Reown.cons (Reown.cons (Reown.cons y6))))))) ?_
        refine J.region_lit ?_
        refine JL.q rfl rfl rfl (QW.move (.tmp rfl)) ?_
        refine JL.q rfl rfl rfl (QW.move (.tmp rfl)) ?_
        refine JL.q rfl rfl rfl (QW.index_arr 5 sl91 ty114 rfl (.tmp rfl) rfl (.tmp rfl) (by first | rfl | omega | (simp; done)) (by omega) rfl) ?_
        refine JL.q rfl rfl rfl (QW.field_gp fo114_1 (.tmp rfl) rfl) ?_
        refine JL.q rfl rfl rfl (by first | exact QW.load_gp 5 ty26 (.tmp rfl) rfl (by exact y1) rfl rfl rfl | exact QW.load_gp (o := 0) 5 ty26 (.tmp rfl) rfl (by exact y1) rfl rfl rfl | exact QW.load_gp (o := 1) 5 ty26 (.tmp rfl) rfl (by exact y1) rfl rfl rfl | exact QW.load_gp (o := 2) 5 ty26 (.tmp rfl) rfl (by exact y1) rfl rfl rfl | exact QW.load_gp 5 ty26 (.tmp rfl) rfl (by exact y1) rfl (take_full (V.cs_length _ _)) (V.cs_length _ _)) ?_
        refine JL.callRF [.k, .k, .k, .k, .k, .k, .k, .p, .p] gofn32 rfl Lent.nil (fun _ => (.cons (.tmp rfl) .nil)) (spoil_ok hV3 (hm.2 _ (List.getElem_mem hlt2)).arg) (.inl rfl) fun x80 o80 h80 => ?_
        obtain ⟨rfl, rfl⟩ := h80
        refine JL.nil ?_
        refine blkQ.n ?_
        refine thenQ.n ?_
        refine J.region_lit ?_
        refine JL.q rfl rfl rfl (QW.move (.tmp rfl)) ?_
        refine JL.q rfl rfl rfl (QW.add (.tmp rfl) .const (by first | exact w64n (by first | rfl | omega | (simp; done)) (by omega) | exact w64 (by omega) | rfl)) ?_
        refine JL.q rfl rfl rfl (QW.assign (.tmp rfl)) ?_
        refine JL.nil ?_
        refine thenQ.n ?_
        exact ⟨⟨j + 1, us3, o3⟩, ⟨hcl2, y3, y4, y5⟩, by simp; omega, Wk.re (.cons rfl (.refl _) (.cons rfl (.refl _) (.cons rfl (.refl _) (.cons rfl (.refl _) (.cons rfl (.refl _) (.cons rfl (.refl _) (.cons rfl (.refl _) (.cons rfl (.refl _) (.cons rfl (.refl _) (.cons rfl (.refl _) (.cons rfl (.refl _) .nil))))))))))) (Reown.refl _) (fun _ h => by first | exact h | simp [h])⟩
      · skip
        skip
        refine J.exit ?_
        refine thenQ.x ?_
        refine thenQ.x ?_
        refine blkQ.hit ?_
        refine thenQ.n ?_
        refine J.seq ?_
        refine J.region_lit ?_
        refine JL.q rfl rfl rfl (QW.move (.tmp rfl)) ?_
        refine JL.q rfl rfl rfl (QW.call gofn61 (.cons (.tmp rfl) .nil) (num08_ok _)) ?_
        refine JL.q rfl rfl rfl (QW.move (.tmp rfl)) ?_
        refine JL.q rfl rfl rfl (QW.eql (.tmp rfl) (.tmp rfl)) ?_
        refine JL.q rfl rfl rfl (QW.move (.tmp rfl)) ?_
        refine JL.g rfl rfl rfl rfl rfl (fun hg => (by first | exact QW.load_box 1 ty92 (.tmp rfl) rfl rfl rfl | exact QW.load_box 1 ty92 (.tmp rfl) rfl (take_at (BT.cs_length _ _) rfl) (BT.cs_length _ _))) ?_
        refine JL.g rfl rfl rfl rfl rfl (fun hg => (by first | exact QW.load_box 0 ty90 (.tmp rfl) rfl rfl rfl | exact QW.load_box 0 ty90 (.tmp rfl) rfl (take_at (BT.cs_length _ _) rfl) (BT.cs_length _ _))) ?_
        refine JL.g rfl rfl rfl rfl rfl (fun hg => (QW.call gofn60 (.cons (.when rfl hg) (.cons (.when rfl hg) .nil)) (alike08_ok Bc.self Bc.self haw haw))) ?_
        refine JL.g rfl rfl rfl rfl rfl (fun hg => (QW.eql (.when rfl hg) .const)) ?_
        refine JL.q rfl rfl rfl (QW.pick_and (.tmp rfl) (.tmp rfl)) ?_
        refine JL.q rfl rfl rfl (QW.move (.tmp rfl)) ?_
        refine JL.g rfl rfl rfl rfl rfl (fun hg => (QW.move (.tmp rfl))) ?_
        refine JL.g rfl rfl rfl rfl rfl (fun hg => (QW.move (.tmp rfl))) ?_
        refine JL.g rfl rfl rfl rfl rfl (fun hg => (QW.call gofn62 (.cons (.when rfl hg) (.cons (.when rfl hg) .nil)) (sameItems_ok hnw hnw))) ?_
        refine JL.q rfl rfl rfl (QW.pick_and (.tmp rfl) (.tmp rfl)) ?_
        refine JL.q rfl rfl rfl (QW.move (.tmp rfl)) ?_
        refine JL.g rfl rfl rfl rfl rfl (fun hg => (QW.move (.tmp rfl))) ?_
        refine JL.g rfl rfl rfl rfl rfl (fun hg => (QW.call gofn61 (.cons (.when rfl hg) .nil) (num08_ok _))) ?_
        refine JL.g rfl rfl rfl rfl rfl (fun hg => (QW.move (.tmp rfl))) ?_
        refine JL.g rfl rfl rfl rfl rfl (fun hg => (QW.eql (.when rfl hg) (.when rfl hg))) ?_
        refine JL.q rfl rfl rfl (QW.pick_and (.tmp rfl) (.tmp rfl)) ?_
        refine JL.q rfl rfl rfl (QW.assign (.tmp rfl)) ?_
        refine JL.nil ?_
        refine thenQ.n ?_
        refine J.ret ?_
        exact ⟨_, selP [.k, .k, .k, .k, .k, .k, .k, .k] _, _, RetEv.one rfl (REv.tmp rfl (.refl _)), rfl, sel_perm [.k, .k, .k, .k, .k, .k, .k, .k] _, ⟨ret_b (by simp), rfl⟩⟩

end Go.Proofs.Ytkiankpmkglhcaa.J
