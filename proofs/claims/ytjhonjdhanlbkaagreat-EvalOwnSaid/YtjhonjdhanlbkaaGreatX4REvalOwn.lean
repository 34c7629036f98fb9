/- Texts of this proof, laid together. -/
import Derived.Test.YtjhonjdhanlbkaaGreatX3REvalOwn
set_option linter.unusedVariables false
set_option linter.unusedSimpArgs false
/- Walks: the small functions of the machine that reckons. -/
namespace Go.Proofs.YtjhonjdhanlbkaaGreat.J
open Go Go.RowKit
set_option maxRecDepth 10000
set_option maxHeartbeats 4000000
theorem nd_ok (ok : Bool) (e : Int) : AC Tryz.prog 45 [] [.c (.bool ok), .c (.int .i64 e)] (PanR (ok = true) (errV e) fun x o => x = .tup [] ∧ o = []) := by
  refine AC.of_J Tryz.func45 rfl Tryz.ntmps45 rfl fun w0 A0 => ?_
  refine Zs (Zq rfl (QW.move (.tmp rfl)) (Zq rfl (QW.not (.tmp rfl)) (Zn ?_)))
  refine J.cond (.tmp rfl) (fun c1 => ?_) (fun c1 => ?_)
  · skip
    have hok : ok = false := by simpa using c1
    refine J.region_lit (Zq rfl (QW.move (.tmp rfl)) (Zq rfl (QW.mkIface ⟨_, Tryz.underlying38, by intro ms h; cases h⟩ (.tmp rfl)) ?_))
    refine JL.panic (.tmp rfl) ?_
    exact ⟨_, selP [] _, _, rfl, rfl, sel_perm [] _, PanR.pan (by simp [hok])⟩
  have hok : ok = true := by simpa using c1
  exact J.skip (Zr [] (RetEv.none rfl ) rfl (PanR.ret hok ⟨rfl, rfl⟩))
theorem boolean_ok (b : Bool) : Fn Tryz.prog 46 [.c (.bool b)] (.agg ((V.tr b).cs false)) := by
  refine AC.of_J Tryz.func46 rfl Tryz.ntmps46 rfl fun w0 A0 => ?_
  refine Zs (JL.alloc z29 rfl rfl fun b2 => Zn (Zs (Zq rfl (QW.build (idx := [0]) pl29 z29 rfl (.cons .const .nil) rfl rfl rfl rfl) (JL.alloc z29 rfl rfl fun b3 => JL.store_boxF 0 ty29 (.tmp rfl) rfl (.tmp rfl) rfl rfl rfl rfl (Zn (J.seq (Zs ?_)))))))
  refine Zq rfl (QW.move (.tmp rfl)) (Zn ?_)
  refine J.cond (.tmp rfl) (fun c1 => ?_) (fun c1 => ?_)
  · skip
    obtain rfl : b = true := by simpa using c1
    exact J.region_lit (Zq rfl (QW.field_ptr fo29_1 (.tmp rfl) rfl) (JL.store_box 0 ty22 (.tmp rfl) rfl .const rfl rfl rfl rfl rfl (Zn (Zs (Zq rfl (QW.load_box 0 ty29 (.tmp rfl) rfl rfl rfl) (JL.store_boxF 1 ty29 (.tmp rfl) rfl (.tmp rfl) rfl rfl rfl rfl (Zn (J.ret (Zr [.k, .k] (RetEv.one rfl (REv.cell 1 ty29 rfl rfl rfl rfl (.aggL (.cons lr (.cons lr (.cons lr (.cons (.nil false false _) (.cons (.nil false false _) .nil)))))))) rfl ⟨rfl, rfl⟩)))))))))
  obtain rfl : b = false := by simpa using c1
  exact Zk (Zs (Zq rfl (QW.load_box 0 ty29 (.tmp rfl) rfl rfl rfl) (JL.store_boxF 1 ty29 (.tmp rfl) rfl (.tmp rfl) rfl rfl rfl rfl (Zn (J.ret (Zr [.k, .k] (RetEv.one rfl (REv.cell 1 ty29 rfl rfl rfl rfl (.aggL (.cons lr (.cons lr (.cons lr (.cons (.nil false false _) (.cons (.nil false false _) .nil)))))))) rfl ⟨rfl, rfl⟩))))))
theorem nof_ok (b : Nat) : Fn Tryz.prog 47 [.c (.int .u64 (b : Int))] (.agg ((V.nu b).cs false)) := by
  refine AC.of_J Tryz.func47 rfl Tryz.ntmps47 rfl fun w0 A0 => ?_
  exact Zs (JL.alloc z29 rfl rfl fun b2 => Zn (Zs (Zq rfl (QW.move (.tmp rfl)) (Zq rfl (QW.build (idx := [0, 1]) pl29 z29 rfl (.cons .const (.cons (.tmp rfl) .nil)) rfl rfl rfl rfl) (JL.store_boxF 0 ty29 (.tmp rfl) rfl (.tmp rfl) rfl rfl rfl rfl (Zn (J.ret (Zr [.k] (RetEv.one rfl (REv.cell 0 ty29 rfl rfl rfl rfl (.aggL (.cons lr (.cons lr (.cons lr (.cons (.nil false false _) (.cons (.nil false false _) .nil)))))))) rfl ⟨rfl, rfl⟩))))))))
theorem made_ok {fr : Bool} {v : V} {ys : List AV} (hv : Vc fr v ys) (hw : v.wf) : AC Tryz.prog 70 [] [.agg ys] (PanR (v.err = 0) (errV 84) fun x o => x = .agg ys ∧ o = []) := by
  subst hv
  refine AC.of_J Tryz.func70 rfl Tryz.ntmps70 rfl fun w0 A0 => ?_
  refine Zs (JL.box_agg (.tmp rfl) rfl fun b1 => JL.alloc z29 rfl rfl fun b2 => Zn (Zs (Zq rfl (QW.load_box 1 ty29 (.tmp rfl) rfl (take_at vl rfl) vl) (Zq rfl (QW.call gofn18 (.cons (.tmp rfl) .nil) (check_ok (Vc.self) (by assumption))) ?_))))
  refine Zq rfl (QW.eql (.tmp rfl) .const) ?_
  refine JL.callPF [] gofn45 rfl Lent.nil (fun _ => (.cons (.tmp rfl) (.cons .const .nil))) (nd_ok _ _) (.inl rfl) (fun k6 x6 o6 h6 => ?_) (fun k6 => ?_)
  rotate_left
  · skip
    refine thenQ.p ?_
    exact ⟨_, selP [.k, .k] _, _, rfl, rfl, sel_perm [.k, .k] _, PanR.pan (by simpa using k6)⟩
  obtain ⟨rfl, rfl⟩ := h6
  exact Zn (Zs (Zq rfl (QW.load_box 1 ty29 (.tmp rfl) rfl (take_at vl rfl) vl) (JL.store_boxF 0 ty29 (.tmp rfl) rfl (.tmp rfl) rfl vl rfl rfl (Zn (J.ret (Zr [.k, .k] (RetEv.one rfl (REv.cell 0 ty29 rfl rfl (take_at vl rfl) vl lr)) rfl (PanR.ret (by simpa using k6) ⟨rfl, rfl⟩)))))))
theorem V.cs_0 (fr : Bool) (v : V) : (List.drop 0 (v.cs fr))[0]? = some (.c (.int .i64 v.kind)) := by cases v; rfl
theorem V.cs_1 (fr : Bool) (v : V) : (List.drop 1 (v.cs fr))[0]? = some (.c (.int .u64 (v.bits : Int))) := by cases v; rfl
theorem V.cs_2 (fr : Bool) (v : V) : (List.drop 2 (v.cs fr))[0]? = some (.c (str v.text)) := by cases v; rfl
theorem V.cs_4 (fr : Bool) (v : V) : (List.drop 4 (v.cs fr))[0]? = some (.sl fr false eV (V.css fr v.items)) := by cases v; rfl
def kindsB : List V → List Int → Bool
  | _, [] => true
  | [], _ :: _ => false
  | v :: l, k :: ks => v.kind == k && kindsB l ks
theorem kindsB_drop {l : List V} {ks : List Int} {j : Nat} (h : j < ks.length) (h2 : j < l.length) : kindsB (l.drop j) (ks.drop j) = (l[j].kind == ks[j] && kindsB (l.drop (j + 1)) (ks.drop (j + 1))) := by
  rw [List.drop_eq_getElem_cons h, List.drop_eq_getElem_cons h2, kindsB]
theorem kinds_ok {fr c fr2 c2 : Bool} (l : List V) (ks : List Int) (hk : ks.length ≤ l.length) (hl : l.length ≤ 1000) : AC Tryz.prog 71 [] [.sl fr c eV (V.css fr l), .sl fr2 c2 eI64 (intsAV ks)] (PanR (kindsB l ks = true) (errV 81) fun x o => x = .tup [] ∧ o = []) := by
  refine AC.of_J Tryz.func71 rfl Tryz.ntmps71 rfl fun w0 A0 => ?_
  refine Zs (Zq rfl (QW.move (.tmp rfl)) (Zq rfl (QW.len_slE sl130 (.tmp rfl) (intsAV_length _)) (Zq rfl (QW.move .const) (Zn (J.block (J.loopK (ι := Nat) [0, 6, 7] (fun j => [(8, .c (.int .i64 (j : Int)))]) (fun _ oo => oo) (fun j => j ≤ ks.length ∧ kindsB l ks = kindsB (l.drop j) (ks.drop j)) (fun j => ks.length - j) 0 (⟨Nat.zero_le _, rfl⟩) (Wk.re (.cons rfl lr (.cons rfl lr (.cons rfl lr (.cons rfl lr .nil)))) (Reown.refl _) (fun _ h => by first | exact h | simp [h])) ?_))))))
  intro j ⟨hj, hs⟩
  refine J.conv (by (try simp only [nl, stepsO, valO, nthO, curO, mrg, AV.cellsOf, splice_zero, splice_succ, Nat.reduceAdd]); rfl) ?_
  refine Zs (Zq rfl (QW.lss (.tmp rfl) (.tmp rfl)) (Zn (J.seq ?_)))
  refine J.cond (.tmp rfl) (fun c1 => ?_) (fun c1 => ?_)
  · skip
    have hlt : j < ks.length := by simpa [intsAV_length] using c1
    have hlt2 : j < l.length := by omega
    refine Zk (J.seq (J.block (Zs (Zq rfl (QW.move (.tmp rfl)) (Zq rfl (QW.index_sl sl130 ty3 rfl (.tmp rfl) (.tmp rfl) rfl (by exact intsAV_getE hlt)) ?_)))))
    refine Zq rfl (QW.load_ref1 ty3 (.tmp rfl) rfl) (Zq rfl (QW.assign (.tmp rfl)) (Zq rfl (QW.assign (.tmp rfl)) (Zn (J.region_lit (Zq rfl (QW.move (.tmp rfl)) (Zq rfl (QW.move (.tmp rfl)) (Zq rfl (QW.index_sl sl27 ty29 rfl (.tmp rfl) (.tmp rfl) rfl (by exact V.css_getE _ hlt2)) ?_)))))))
    refine Zq rfl (QW.field_ref fo29_0 (.tmp rfl) rfl) (Zq rfl (QW.load_ref1 ty3 (.tmp rfl) (V.cs_0 _ _)) (Zq rfl (QW.move (.tmp rfl)) (Zq rfl (QW.eql (.tmp rfl) (.tmp rfl)) ?_)))
    refine JL.callPF [] gofn45 rfl Lent.nil (fun _ => (.cons (.tmp rfl) (.cons .const .nil))) (nd_ok _ _) (.inl rfl) (fun k20 x20 o20 h20 => ?_) (fun k20 => ?_)
    rotate_left
    · skip
      refine blkQ.p (thenQ.p (thenQ.p (blkQ.p ?_)))
      exact ⟨_, selP [] _, _, rfl, rfl, sel_perm [] _, PanR.pan (by rw [hs, kindsB_drop hlt hlt2]; simp only [Bool.and_eq_true]; exact fun h => k20 h.1)⟩
    obtain ⟨rfl, rfl⟩ := h20
    refine JL.nil (blkQ.n (thenQ.n (J.region_lit (Zq rfl (QW.add (.tmp rfl) .const (w64 (by omega))) (Zq rfl (QW.move (.tmp rfl)) (Zn ?_))))))
    rw [kindsB_drop hlt hlt2, k20, Bool.true_and] at hs
    exact ⟨j + 1, ⟨hlt, hs⟩, by omega, Wk.re (.cons rfl lr (.cons rfl lr (.cons rfl lr (.cons rfl lr .nil)))) (Reown.refl _) (fun _ h => by first | exact h | simp [h])⟩
  have hge : ks.length ≤ j := by simpa [intsAV_length] using c1
  exact J.exit (thenQ.x (thenQ.x (blkQ.hit (Zr [] (RetEv.none rfl ) rfl (PanR.ret (by rw [hs, List.drop_of_length_le hge]; cases l.drop j <;> rfl) ⟨rfl, rfl⟩)))))
theorem eget_ok {fr : Bool} {v : V} {s : StT} {ys : List AV} (hv : Vc fr v ys) (hw : v.wf) (hs : s.wf) : AC Tryz.prog 101 [] [.agg ys, .agg s.cs] (PanR ((v.getv [s]).2 = 0) (errV (v.getv [s]).2) fun x o => x = .agg ((v.getv [s]).1.cs true) ∧ o = []) := by
  subst hv
  obtain ⟨sk, key, ix⟩ := s
  have hp : [StT.mk sk key ix].length * 32 ≤ reach ∧ ∀ x ∈ [StT.mk sk key ix], x.wf := ⟨by unfold reach; simp, fun x hx => by rw [List.mem_singleton.1 hx]; exact hs⟩
  refine AC.of_J Tryz.func101 rfl Tryz.ntmps101 rfl fun w0 A0 => ?_
  refine Zs (JL.box_agg (.tmp rfl) rfl fun b2 => JL.box_agg (.tmp rfl) rfl fun b3 => JL.alloc z29 rfl rfl fun b4 => Zn (Zs (Zq rfl (QW.load_box 2 ty29 (.tmp rfl) rfl (take_at vl rfl) vl) (Zq rfl (QW.load_box 1 ty120 (.tmp rfl) rfl rfl rfl) (Zq rfl (QW.buildSlice (idx := [0]) (xs := StT.css [⟨sk, key, ix⟩]) sl121 el120 z120 rfl (.cons (.tmp rfl) .nil) rfl rfl rfl rfl rfl rfl rfl rfl rfl) (Zq rfl (QW.call gofn132 (.cons (.tmp rfl) (.cons (.tmp rfl) .nil)) (get_ok (p := [StT.mk sk key ix]) Vc.self hw hp)) ?_))))))
  refine Zq rfl (QW.move (.tmp rfl)) (Zq rfl (QW.extract (.tmp rfl) rfl) (Zq rfl (QW.extract (.tmp rfl) rfl) (JL.alloc z29 rfl rfl fun b5 => JL.store_boxF 0 ty29 (.tmp rfl) rfl (.tmp rfl) rfl vl rfl rfl (Zq rfl (QW.assign (.tmp rfl)) (Zn (Zs (Zq rfl (QW.move (.tmp rfl)) (Zq rfl (QW.eql (.tmp rfl) .const) ?_))))))))
  refine Zq rfl (QW.move (.tmp rfl)) ?_
  refine JL.callPF [] gofn45 rfl Lent.nil (fun _ => (.cons (.tmp rfl) (.cons (.tmp rfl) .nil))) (nd_ok _ _) (.inl rfl) (fun k17 x17 o17 h17 => ?_) (fun k17 => ?_)
  rotate_left
  · skip
    refine thenQ.p ?_
    exact ⟨_, selP [.k, .k, .k, .k] _, _, rfl, rfl, sel_perm [.k, .k, .k, .k] _, PanR.pan (by simpa using k17)⟩
  obtain ⟨rfl, rfl⟩ := h17
  exact Zn (Zs (Zq rfl (QW.load_box 0 ty29 (.tmp rfl) rfl (take_at vl rfl) vl) (JL.store_boxF 1 ty29 (.tmp rfl) rfl (.tmp rfl) rfl vl rfl rfl (Zn (J.ret (Zr [.k, .k, .k, .k] (RetEv.one rfl (REv.cell 1 ty29 rfl rfl (take_at vl rfl) vl lr)) rfl (PanR.ret (by simpa using k17) ⟨rfl, rfl⟩)))))))
theorem arith_ok (o : Int) (a b : Nat) : Fn Tryz.prog 72 [.c (.int .i64 o), .c (.int .u64 (a : Int)), .c (.int .u64 (b : Int))] (.agg ((V.nu (arO o a b)).cs false)) := by
  refine AC.of_J Tryz.func72 rfl Tryz.ntmps72 rfl fun w0 A0 => ?_
  refine Zs (JL.alloc z29 rfl rfl fun b6 => Zn (J.seq (Zs (Zq rfl (QW.move (.tmp rfl)) (Zn (J.block (Zs (Zq rfl (QW.eql (.tmp rfl) .const) ?_))))))))
  refine Zq rfl (QW.assign (.tmp rfl)) (Zn ?_)
  refine J.cond (.tmp rfl) (fun c1 => ?_) (fun c1 => ?_)
  · try (exfalso; simp at *; omega; done)
    all_goals
      exact Zs (Zq rfl (QW.move (.tmp rfl)) (Zq rfl (QW.move (.tmp rfl)) (Zq rfl (QW.call gofn92 (.cons (.tmp rfl) (.cons (.tmp rfl) .nil)) (add_ok _ _)) (Zq rfl (QW.call gofn47 (.cons (.tmp rfl) .nil) (nof_ok _)) (JL.store_boxF 0 ty29 (.tmp rfl) rfl (.tmp rfl) rfl rfl rfl rfl (Zn (J.ret (blkQ.r (thenQ.r (Zr [.k] (RetEv.one rfl (REv.cell 0 ty29 rfl rfl rfl rfl lr)) rfl ⟨by rw [show arO o a b = arithN .add a b by simp at *; simp [arO, *]]; rfl, rfl⟩))))))))))
  try (exfalso; simp at *; omega; done)
  all_goals
    refine Zs (Zq rfl (QW.eql (.tmp rfl) .const) (Zq rfl (QW.assign (.tmp rfl)) (Zn ?_)))
    refine J.cond (.tmp rfl) (fun c2 => ?_) (fun c2 => ?_)
    · try (exfalso; simp at *; omega; done)
      all_goals
        exact Zs (Zq rfl (QW.move (.tmp rfl)) (Zq rfl (QW.move (.tmp rfl)) (Zq rfl (QW.call gofn93 (.cons (.tmp rfl) (.cons (.tmp rfl) .nil)) (sub_ok _ _)) (Zq rfl (QW.call gofn47 (.cons (.tmp rfl) .nil) (nof_ok _)) (JL.store_boxF 0 ty29 (.tmp rfl) rfl (.tmp rfl) rfl rfl rfl rfl (Zn (J.ret (blkQ.r (thenQ.r (Zr [.k] (RetEv.one rfl (REv.cell 0 ty29 rfl rfl rfl rfl lr)) rfl ⟨by rw [show arO o a b = arithN .sub a b by simp at *; simp [arO, *]]; rfl, rfl⟩))))))))))
    try (exfalso; simp at *; omega; done)
    all_goals
      refine Zs (Zq rfl (QW.eql (.tmp rfl) .const) (Zq rfl (QW.assign (.tmp rfl)) (Zn ?_)))
      refine J.cond (.tmp rfl) (fun c3 => ?_) (fun c3 => ?_)
      · try (exfalso; simp at *; omega; done)
        all_goals
          exact Zs (Zq rfl (QW.move (.tmp rfl)) (Zq rfl (QW.move (.tmp rfl)) (Zq rfl (QW.call gofn94 (.cons (.tmp rfl) (.cons (.tmp rfl) .nil)) (mul_ok _ _)) (Zq rfl (QW.call gofn47 (.cons (.tmp rfl) .nil) (nof_ok _)) (JL.store_boxF 0 ty29 (.tmp rfl) rfl (.tmp rfl) rfl rfl rfl rfl (Zn (J.ret (blkQ.r (thenQ.r (Zr [.k] (RetEv.one rfl (REv.cell 0 ty29 rfl rfl rfl rfl lr)) rfl ⟨by rw [show arO o a b = arithN .mul a b by simp at *; simp [arO, *]]; rfl, rfl⟩))))))))))
      try (exfalso; simp at *; omega; done)
      all_goals
        refine J.skip (blkQ.n (thenQ.n (Zs (Zq rfl (QW.move (.tmp rfl)) (Zq rfl (QW.move (.tmp rfl)) (Zq rfl (QW.call gofn95 (.cons (.tmp rfl) (.cons (.tmp rfl) .nil)) (quo_ok _ _)) (Zq rfl (QW.call gofn47 (.cons (.tmp rfl) .nil) (nof_ok _)) (JL.store_boxF 0 ty29 (.tmp rfl) rfl (.tmp rfl) rfl rfl rfl rfl (Zn ?_)))))))))
        exact J.ret (Zr [.k] (RetEv.one rfl (REv.cell 0 ty29 rfl rfl rfl rfl lr)) rfl ⟨by rw [show arO o a b = arithN .quo a b by simp at *; simp [arO, *]]; rfl, rfl⟩)
end Go.Proofs.YtjhonjdhanlbkaaGreat.J

/- What is set is got; what parts from its path stays. -/
namespace Go.Proofs.YtjhonjdhanlbkaaGreat.J
open Go Go.RowKit
theorem V.setv_inv {v w x : V} {p : List StT} (h : v.setv p x = (w, 0)) : v.err = 0 ∧ x.err = 0 ∧ v.set p x = (w, 0) ∧ w.err = 0 := by
  unfold V.setv at h
  split at h
  · rename_i h1; exact absurd (congrArg (·.2) h) h1
  · rename_i h1
    split at h
    · rename_i h2; exact absurd (congrArg (·.2) h) h2
    · rename_i h2
      split at h
      · rename_i h3; exact absurd (congrArg (·.2) h) h3
      · rename_i h3
        split at h
        · rename_i h4; exact absurd (congrArg (·.2) h) h4
        · rename_i h4
          have hw : (v.set p x).1 = w := congrArg (·.1) h
          exact ⟨by simpa using h1, by simpa using h2, Prod.ext hw (by simpa using h3), by rw [← hw]; simpa using h4⟩
end Go.Proofs.YtjhonjdhanlbkaaGreat.J

/- What expressions come to may be; the fuel that they take. -/
namespace Go.Proofs.YtjhonjdhanlbkaaGreat.J
open Go Go.RowKit
/-! ### values that may be -/
mutual
theorem V.chk_sz : ∀ (v : V) (lev n : Int), (v.chk lev n).1 = 0 → (v.chk lev n).2 = n + v.sz
  | .mk k b t ks is, lev, n, h => by
    unfold V.chk at h ⊢
    split at h
    · simp at h
    · split at h
      · simp at h
      · split at h
        · simp at h
        · rename_i h1 h2 h3
          rw [if_neg h1, if_neg h2, if_neg h3, V.chks_sz is lev (n + 1) h]
          simp only [V.sz]; omega
theorem V.chks_sz : ∀ (l : List V) (lev n : Int), (V.chks l lev n).1 = 0 → (V.chks l lev n).2 = n + V.szs l
  | [], lev, n, h => by simp [V.chks, V.szs]
  | x :: r, lev, n, h => by
    unfold V.chks at h ⊢
    split at h
    · rename_i h'; exact absurd h h'
    · rename_i h'
      rw [if_neg h', V.chks_sz r lev _ h, V.chk_sz x (lev + 1) n (by simpa using h')]
      simp only [V.szs]; omega
end
mutual
theorem V.chk_mono : ∀ (v : V) (lev lev' n n' : Int), (v.chk lev n).1 = 0 → lev' ≤ lev → n' ≤ n → (v.chk lev' n').1 = 0
  | .mk k b t ks is, lev, lev', n, n', h, h1, h2 => by
    unfold V.chk at h ⊢
    split at h
    · simp at h
    · split at h
      · simp at h
      · split at h
        · simp at h
        · rename_i a1 a2 a3
          rw [if_neg (by omega), if_neg (by omega), if_neg a3]
          exact V.chks_mono is lev lev' (n + 1) (n' + 1) h h1 (by omega)
theorem V.chks_mono : ∀ (l : List V) (lev lev' n n' : Int), (V.chks l lev n).1 = 0 → lev' ≤ lev → n' ≤ n → (V.chks l lev' n').1 = 0
  | [], lev, lev', n, n', h, h1, h2 => rfl
  | x :: r, lev, lev', n, n', h, h1, h2 => by
    unfold V.chks at h ⊢
    split at h
    · rename_i h'; exact absurd h h'
    · rename_i h'
      have hx := V.chk_mono x (lev + 1) (lev' + 1) n n' (by simpa using h') (by omega) h2
      have e1 := V.chk_sz x (lev + 1) n (by simpa using h')
      have e2 := V.chk_sz x (lev' + 1) n' hx
      rw [if_neg (by simp [hx])]
      exact V.chks_mono r lev lev' _ _ h h1 (by omega)
end
theorem V.chks_kid : ∀ {l : List V} {lev n : Int}, 0 ≤ lev → 0 ≤ n → (V.chks l lev n).1 = 0 → ∀ x ∈ l, x.err = 0
  | [], lev, n, _, _, h, x, hx => by cases hx
  | y :: r, lev, n, hl, hn, h, x, hx => by
    unfold V.chks at h
    split at h
    · rename_i h'; exact absurd h h'
    · rename_i h'
      have h'' : (y.chk (lev + 1) n).1 = 0 := by simpa using h'
      rcases List.mem_cons.1 hx with rfl | hx
      · exact V.chk_mono _ _ _ _ _ h'' (by omega) hn
      · have := (V.chk_bounds y (lev + 1) n).1
        exact V.chks_kid hl (by omega) h x hx
theorem V.kid_err {v x : V} (h : v.err = 0) (hx : x ∈ v.items) : x.err = 0 := by
  obtain ⟨k, b, t, ks, is⟩ := v
  unfold V.err V.chk at h
  rw [if_neg (by decide), if_neg (by decide)] at h
  split at h
  · simp at h
  · exact V.chks_kid (by decide) (by decide) h x hx
structure V.good (v : V) : Prop where
  wf : v.wf
  err : v.err = 0
theorem V.good.kid {v x : V} (h : v.good) (hx : x ∈ v.items) : x.good := ⟨h.wf.kid hx, V.kid_err h.err hx⟩
theorem V.good.fine {v : V} (h : v.good) : v.Fine := V.fine_of h.err
theorem V.err_leaf {k : Int} {b : Nat} {t : Str} (h : partOk (.mk k b t [] []) = true) : (V.mk k b t [] []).err = 0 := by
  unfold V.err V.chk
  rw [if_neg (by decide), if_neg (by decide), if_neg (by simp [h])]; rfl
theorem V.good_nil : V.nil.good := ⟨V.wf_nil, by decide⟩
theorem V.good_tr (b : Bool) : (V.tr b).good := by cases b <;> exact ⟨.mk (by decide) (by decide) (by decide) (by decide) (by decide) (fun _ h => by cases h) (fun _ h => by cases h), by decide⟩
theorem V.good_nu {b : Nat} (hb : b < 2 ^ 64) (h : canonN b = b) : (V.nu b).good :=
  ⟨.mk (by decide) hb (by decide) (by decide) (by decide) (fun _ h => by cases h) (fun _ h => by cases h), V.err_leaf (by simp [partOk, h])⟩
theorem V.good_tx {t : Str} (h : t.length ≤ 128) : (V.tx t).good :=
  ⟨.mk (by decide) (by decide) (by unfold reach; omega) (by decide) (by decide) (fun _ h => by cases h) (fun _ h => by cases h), V.err_leaf (by simp [partOk, h])⟩
theorem canon_fix {c : Nat} (h : isNan c = false) : canonN c = c := by simp [canonN, h]
theorem arith_good (op : BinOp) (a b : Nat) : arithN op a b < 2 ^ 64 ∧ canonN (arithN op a b) = arithN op a b := by
  unfold arithN
  cases h : farithN op a b with
  | none => exact ⟨by decide, by decide⟩
  | some c => have := farith_some h; exact ⟨this.2, canon_fix this.1⟩
theorem arO_good (o : Int) (a b : Nat) : arO o a b < 2 ^ 64 ∧ canonN (arO o a b) = arO o a b := by
  unfold arO; repeat' split
  all_goals exact arith_good _ _ _
theorem floor_good (b : Nat) : floorC b < 2 ^ 64 ∧ canonN (floorC b) = floorC b := by
  unfold floorC
  cases h : isNan b with
  | true => rw [if_pos rfl]; exact ⟨by decide, by decide⟩
  | false => exact ⟨write_lt64 _, canon_fix (write_nonnan (integral_nonnan h .down))⟩
theorem ofN_good (n : Int) : ofN n < 2 ^ 64 ∧ canonN (ofN n) = ofN n := by
  unfold ofN
  split
  · exact ⟨by decide, by decide⟩
  · rename_i h
    obtain ⟨r, h1, _, h2, _⟩ := near_word (n := n) (by omega)
    exact ⟨nearest_lt, canon_fix (by unfold nearN; rw [h2]; exact isNan_word (by omega))⟩
theorem natD_len : ∀ (k n : Nat), n < 10 ^ (k + 1) → (natD n).length ≤ k + 1
  | 0, n, h => by unfold natD; rw [if_pos (by simpa using h)]; simp
  | k + 1, n, h => by
    unfold natD
    split
    · simp
    · rw [List.length_append, List.length_singleton]
      have := natD_len k (n / 10) (by rw [Nat.pow_succ] at h; omega)
      omega
theorem intV_bounds (b : Nat) (h : intE b = 0) : -9007199254740992 ≤ intV b ∧ intV b ≤ 9007199254740992 := by
  unfold intV
  split
  · omega
  · rename_i h1
    have := small_whole (b := b) (by omega)
    unfold svF; have h4 : (2 : Nat) ^ 53 = 9007199254740992 := by decide
    rw [h4] at this; generalize magn (rung b) / unitV = q at *; split <;> omega
theorem V.walk_good : ∀ {p : List StT} {v : V}, v.good → (v.walk p).2 = 0 → (v.walk p).1.good
  | [], v, h, _ => h
  | s :: r, v, h, he => by
    unfold V.walk at he ⊢
    split at he
    · rename_i h1; exact absurd he h1
    · rename_i h1
      rw [if_neg h1]
      have hlt := V.fnd_lt h.fine.part (by simpa using h1)
      exact V.walk_good (h.kid (V.kid_mem hlt)) he
theorem getE_good {v u : V} {s : StT} (h : v.good) (hg : getE v s = .ok u) : u.good := by
  unfold getE at hg
  split at hg
  · rename_i he
    cases hg
    unfold V.getv at he ⊢
    rw [if_neg (by simp [h.err])] at he ⊢
    exact V.walk_good h he
  · cases hg
theorem setE_good {v u x : V} {s : StT} (h : v.good) (hs : s.wf) (hx : x.good) (hg : setE v s x = .ok u) : u.good := by
  unfold setE at hg
  split at hg
  · rename_i he
    cases hg
    refine ⟨V.setv_wf h.wf (fun t ht => by obtain rfl := List.mem_singleton.1 ht; exact hs) hx.wf, ?_⟩
    obtain ⟨w, hw⟩ : ∃ w, v.setv [s] x = (w, 0) := ⟨_, Prod.ext rfl he⟩
    rw [hw]
    exact (V.setv_inv hw).2.2.2
  · cases hg
theorem made_good {l : List V} {u : V} (hl : ∀ x ∈ l, x.wf) (h : madeE (.li l) = .ok u) : u = .li l ∧ u.good := by
  unfold madeE at h
  split at h
  · rename_i he
    cases h
    refine ⟨rfl, .mk (by decide) (by decide) (by decide) (by decide) ?_ (fun _ h => by cases h) hl, he⟩
    have hp := (V.fine_of he).part
    have : l.length ≤ 32 := (partOk_len hp).1
    unfold reach; omega
  · cases h
theorem V.good.bits {v : V} (h : v.good) : v.bits < 2 ^ 64 := by obtain ⟨k, b, t, ks, is⟩ := v; exact h.wf.inv.2.1
theorem V.good.len {v : V} (h : v.good) : v.items.length ≤ 32 := (partOk_len h.fine.part).1
theorem one_good {o : Int} {t : Str} {a u : V} (ha : a.good) (h : oneE o t a = .ok u) : u.good := by
  unfold oneE at h
  split at h
  · exact getE_good ha h
  · split at h
    · split at h
      · cases h
      · cases h; exact V.good_nu (ofN_good _).1 (ofN_good _).2
    · split at h
      · split at h
        · cases h; exact V.good_nu (floor_good _).1 (floor_good _).2
        · cases h
      · split at h
        · split at h
          · cases h; exact V.good_tr _
          · cases h
        · split at h
          · cases h
          · split at h
            · cases h
            · rename_i he
              cases h
              have hb := intV_bounds a.bits (by simpa using he)
              have := natD_len 15 (intV a.bits).natAbs (by omega)
              refine V.good_tx ?_
              unfold intD; split <;> (try simp only [List.length_cons]) <;> omega
theorem two_good {o : Int} {t : Str} {a b u : V} (ht : t.length ≤ reach) (ha : a.good) (hb : b.good) (h : twoE o t a b = .ok u) : u.good := by
  unfold twoE at h
  repeat' split at h
  all_goals first | (cases h; done) | skip
  · exact getE_good ha h
  · cases h; exact V.good_tr _
  · cases h; exact V.good_tr _
  · rename_i h1 h2; cases h; exact V.good_tx (by simp; omega)
  · exact setE_good ha ⟨show ([] : Str).length ≤ reach by unfold reach; simp, by have := ha.len; show (-9223372036854775808 : Int) ≤ (a.items.length : Int) ∧ (a.items.length : Int) ≤ 9223372036854775807; omega⟩ hb h
  · exact setE_good ha ⟨ht, show (-9223372036854775808 : Int) ≤ 0 ∧ (0 : Int) ≤ 9223372036854775807 by decide⟩ hb h
  · cases h; exact V.good_nu (arO_good _ _ _).1 (arO_good _ _ _).2
theorem plain_good {o : Int} {t : Str} {l : List V} {u : V} (ht : t.length ≤ reach) (hl : ∀ x ∈ l, x.good) (h : plainE o t l = .ok u) : u.good := by
  unfold plainE at h
  split at h
  · exact (made_good (fun x hx => (hl x hx).wf) h).2
  · split at h
    · exact one_good (hl _ (by simp)) h
    · exact two_good ht (hl _ (by simp)) (hl _ (by simp)) h
    · cases h
def OkE (f : Int) (d : Int) (r : ER V) : Prop := ∀ v f', r = .ok (v, f') → v.good ∧ f' ≤ f - d ∧ 0 ≤ f'
structure ScT.good (s : ScT) : Prop where
  st : s.st.good
  ev : s.ev.good
  it : s.it.good
theorem mapE_good {g : V → Int → ER V} (hg : ∀ x f, x.good → 0 ≤ f → OkE f 0 (g x f)) : ∀ (l : List V) (f : Int), (∀ x ∈ l, x.good) → 0 ≤ f → ∀ ys f', mapE g l f = .ok (ys, f') → (∀ y ∈ ys, y.good) ∧ f' ≤ f ∧ 0 ≤ f'
  | [], f, hl, h0, ys, f', h => by cases h; exact ⟨fun y hy => (by cases hy), Int.le_refl _, h0⟩
  | x :: r, f, hl, h0, ys, f', h => by
    unfold mapE at h
    split at h
    · cases h
    · rename_i y f1 h1
      split at h
      · cases h
      · rename_i l f2 h2
        cases h
        obtain ⟨a1, a2, a3⟩ := hg x f (hl x (by simp)) h0 _ _ h1
        obtain ⟨b1, b2, b3⟩ := mapE_good hg r f1 (fun z hz => hl z (by simp [hz])) a3 _ _ h2
        exact ⟨fun z hz => (List.mem_cons.1 hz).elim (fun e => e ▸ a1) (b1 z), by omega, b3⟩
theorem truE_ok {r : ER V} {b : Bool} {f' : Int} (h : truE r = .ok (b, f')) : ∃ v, r = .ok (v, f') ∧ v.kind = 1 ∧ b = (v.bits == 1) := by
  unfold truE at h
  split at h
  · cases h
  · split at h
    · rename_i v f hk; cases h; exact ⟨v, rfl, hk, rfl⟩
    · cases h
theorem filE_good {g : V → Int → ER V} (hg : ∀ x f, x.good → 0 ≤ f → OkE f 0 (g x f)) : ∀ (l : List V) (f : Int), (∀ x ∈ l, x.good) → 0 ≤ f → ∀ ys f', filE (fun x f => truE (g x f)) l f = .ok (ys, f') → (∀ y ∈ ys, y ∈ l) ∧ f' ≤ f ∧ 0 ≤ f'
  | [], f, hl, h0, ys, f', h => by cases h; exact ⟨fun y hy => (by cases hy), Int.le_refl _, h0⟩
  | x :: r, f, hl, h0, ys, f', h => by
    unfold filE at h
    split at h
    · cases h
    · rename_i b f1 h1
      split at h
      · cases h
      · rename_i l f2 h2
        cases h
        obtain ⟨v, h3, _, _⟩ := truE_ok h1
        obtain ⟨a1, a2, a3⟩ := hg x f (hl x (by simp)) h0 _ _ h3
        obtain ⟨b1, b2, b3⟩ := filE_good hg r f1 (fun z hz => hl z (by simp [hz])) a3 _ _ h2
        refine ⟨fun z hz => ?_, by omega, b3⟩
        split at hz
        · exact (List.mem_cons.1 hz).elim (fun e => by simp [e]) (fun h => by simp [b1 z h])
        · simp [b1 z hz]
theorem fndE_good {g : V → Int → ER V} (hg : ∀ x f, x.good → 0 ≤ f → OkE f 0 (g x f)) : ∀ (l : List V) (f : Int), (∀ x ∈ l, x.good) → 0 ≤ f → OkE f 0 (fndE (fun x f => truE (g x f)) l f)
  | [], f, hl, h0, v, f', h => by cases h
  | x :: r, f, hl, h0, v, f', h => by
    unfold fndE at h
    split at h
    · cases h
    · rename_i b f1 h1
      obtain ⟨u, h3, _, _⟩ := truE_ok h1
      obtain ⟨a1, a2, a3⟩ := hg x f (hl x (by simp)) h0 _ _ h3
      split at h
      · cases h; exact ⟨hl x (by simp), by omega, a3⟩
      · obtain ⟨b1, b2, b3⟩ := fndE_good hg r f1 (fun z hz => hl z (by simp [hz])) a3 _ _ h
        exact ⟨b1, by omega, b3⟩
theorem madeF_ok {r : ER (List V)} {v : V} {f : Int} (h : madeF r = .ok (v, f)) : ∃ l, r = .ok (l, f) ∧ madeE (.li l) = .ok v := by
  unfold madeF at h
  split at h
  · cases h
  · split at h
    · cases h
    · rename_i h1; cases h; exact ⟨_, rfl, h1⟩
theorem overE_good {o : Int} {g : V → Int → ER V} {r : ER V} {f : Int} (hr : OkE f 0 r) (hg : ∀ x f, x.good → 0 ≤ f → OkE f 0 (g x f)) : OkE f 0 (overE o g r) := fun v f' h => by
  unfold overE at h
  split at h
  · cases h
  · rename_i u f1
    obtain ⟨a1, a2, a3⟩ := hr u f1 rfl
    have hk : ∀ x ∈ u.items, x.good := fun x hx => a1.kid hx
    split at h
    · cases h
    · split at h
      · obtain ⟨l, h1, h2⟩ := madeF_ok h
        obtain ⟨b1, b2, b3⟩ := mapE_good hg _ _ hk a3 _ _ h1
        exact ⟨(made_good (fun x hx => (b1 x hx).wf) h2).2, by omega, b3⟩
      · split at h
        · obtain ⟨l, h1, h2⟩ := madeF_ok h
          obtain ⟨b1, b2, b3⟩ := filE_good hg _ _ hk a3 _ _ h1
          exact ⟨(made_good (fun x hx => (hk x (b1 x hx)).wf) h2).2, by omega, b3⟩
        · obtain ⟨b1, b2, b3⟩ := fndE_good hg _ _ hk a3 _ _ h
          exact ⟨b1, by omega, b3⟩
mutual
theorem EX.ev_good : ∀ (e : EX) (s : ScT) (f : Int), e.Fine → e.wf → s.good → OkE f 1 (e.ev s f)
  | .mk o b t l, s, f, hf, hw, hs, v, f', h => by
    have hok := hf.part
    obtain ⟨-, hb, ht, -, hwl⟩ := hw.inv
    have hbd := EX.ok_bounds hok
    rw [EX.ev] at h
    by_cases h0 : f < 1
    · rw [if_pos h0] at h; cases h
    rw [if_neg h0] at h
    by_cases c : o = 0
    · rw [if_pos c] at h
      cases h; exact ⟨V.good_nil, by omega, by omega⟩
    rw [if_neg c] at h; clear c
    by_cases c : o = 1
    · rw [if_pos c] at h
      cases h; exact ⟨V.good_tr _, by omega, by omega⟩
    rw [if_neg c] at h; clear c
    by_cases c : o = 2
    · rw [if_pos c] at h
      cases h; exact ⟨V.good_tr _, by omega, by omega⟩
    rw [if_neg c] at h; clear c
    by_cases c : o = 3
    · rw [if_pos c] at h
      cases h
      refine ⟨V.good_nu hb ?_, by omega, by omega⟩
      subst c
      have h9 : (if (3 : Int) = 3 then canonN b == b else b == 0) = true := by simp only [EX.ok, Bool.and_eq_true] at hok; exact hok.2
      simpa using h9
    rw [if_neg c] at h; clear c
    by_cases c : o = 4
    · rw [if_pos c] at h
      cases h; exact ⟨V.good_tx hbd.2.2.1, by omega, by omega⟩
    rw [if_neg c] at h; clear c
    by_cases c : o = 5
    · rw [if_pos c] at h
      cases h; exact ⟨hs.st, by omega, by omega⟩
    rw [if_neg c] at h; clear c
    by_cases c : o = 6
    · rw [if_pos c] at h
      cases h; exact ⟨hs.ev, by omega, by omega⟩
    rw [if_neg c] at h; clear c
    by_cases c : o = 7
    · rw [if_pos c] at h
      cases h; exact ⟨hs.it, by omega, by omega⟩
    rw [if_neg c] at h; clear c
    by_cases c : o = 18
    · rw [if_pos c] at h
      obtain ⟨a1, a2, a3⟩ := EX.evAO_good false l s (f - 1) (fun x hx => ⟨hf.kid hx, hwl x hx⟩) hs v f' h; exact ⟨a1, by omega, a3⟩
    rw [if_neg c] at h; clear c
    by_cases c : o = 19
    · rw [if_pos c] at h
      obtain ⟨a1, a2, a3⟩ := EX.evAO_good true l s (f - 1) (fun x hx => ⟨hf.kid hx, hwl x hx⟩) hs v f' h; exact ⟨a1, by omega, a3⟩
    rw [if_neg c] at h; clear c
    by_cases c : o = 21
    · rw [if_pos c] at h
      obtain ⟨a1, a2, a3⟩ := EX.evIf_good l s (f - 1) (fun x hx => ⟨hf.kid hx, hwl x hx⟩) hs v f' h; exact ⟨a1, by omega, a3⟩
    rw [if_neg c] at h; clear c
    by_cases c : o = 27 ∨ o = 28 ∨ o = 29
    · rw [if_pos c] at h
      obtain ⟨a1, a2, a3⟩ := EX.evOv_good o l s (f - 1) (fun x hx => ⟨hf.kid hx, hwl x hx⟩) hs v f' h; exact ⟨a1, by omega, a3⟩
    rw [if_neg c] at h; clear c
    split at h
    · cases h
    · rename_i vs f1 h1
      split at h
      · cases h
      · rename_i u h2
        cases h
        obtain ⟨a1, a2, a3⟩ := EX.evs_good l s (f - 1) (fun x hx => ⟨hf.kid hx, hwl x hx⟩) hs (by omega) _ _ h1
        exact ⟨plain_good ht a1 h2, by omega, a3⟩
theorem EX.evs_good : ∀ (l : List EX) (s : ScT) (f : Int), (∀ x ∈ l, x.Fine ∧ x.wf) → s.good → 0 ≤ f → ∀ vs f', EX.evs l s f = .ok (vs, f') → (∀ x ∈ vs, x.good) ∧ f' ≤ f ∧ 0 ≤ f'
  | [], s, f, hl, hs, h0, vs, f', h => by unfold EX.evs at h; cases h; exact ⟨fun x hx => (by cases hx), Int.le_refl _, h0⟩
  | x :: r, s, f, hl, hs, h0, vs, f', h => by
    unfold EX.evs at h
    split at h
    · cases h
    · rename_i v f1 h1
      split at h
      · cases h
      · rename_i vs f2 h2
        cases h
        obtain ⟨a1, a2, a3⟩ := EX.ev_good x s f (hl x (by simp)).1 (hl x (by simp)).2 hs _ _ h1
        obtain ⟨b1, b2, b3⟩ := EX.evs_good r s f1 (fun z hz => hl z (by simp [hz])) hs a3 _ _ h2
        exact ⟨fun z hz => (List.mem_cons.1 hz).elim (fun e => e ▸ a1) (b1 z), by omega, b3⟩
theorem EX.evAO_good : ∀ (k : Bool) (l : List EX) (s : ScT) (f : Int), (∀ x ∈ l, x.Fine ∧ x.wf) → s.good → OkE f 1 (EX.evAO k l s f)
  | k, [], s, f, hl, hs, v, f', h => by unfold EX.evAO at h; cases h
  | k, [_], s, f, hl, hs, v, f', h => by unfold EX.evAO at h; cases h
  | k, x :: y :: _, s, f, hl, hs, v, f', h => by
    unfold EX.evAO at h
    split at h
    · cases h
    · rename_i b1 f1 h1
      obtain ⟨u, h2, _, _⟩ := truE_ok h1
      obtain ⟨a1, a2, a3⟩ := EX.ev_good x s f (hl x (by simp)).1 (hl x (by simp)).2 hs _ _ h2
      split at h
      · cases h; exact ⟨V.good_tr _, by omega, a3⟩
      · split at h
        · cases h
        · rename_i b2 f2 h3
          obtain ⟨u, h4, _, _⟩ := truE_ok h3
          obtain ⟨b1, b2, b3⟩ := EX.ev_good y s f1 (hl y (by simp)).1 (hl y (by simp)).2 hs _ _ h4
          cases h; exact ⟨V.good_tr _, by omega, b3⟩
theorem EX.evIf_good : ∀ (l : List EX) (s : ScT) (f : Int), (∀ x ∈ l, x.Fine ∧ x.wf) → s.good → OkE f 1 (EX.evIf l s f)
  | [], s, f, hl, hs, v, f', h => by unfold EX.evIf at h; cases h
  | [_], s, f, hl, hs, v, f', h => by unfold EX.evIf at h; cases h
  | [_, _], s, f, hl, hs, v, f', h => by unfold EX.evIf at h; cases h
  | x :: y :: z :: _, s, f, hl, hs, v, f', h => by
    unfold EX.evIf at h
    split at h
    · cases h
    · rename_i b1 f1 h1
      obtain ⟨u, h2, _, _⟩ := truE_ok h1
      obtain ⟨a1, a2, a3⟩ := EX.ev_good x s f (hl x (by simp)).1 (hl x (by simp)).2 hs _ _ h2
      split at h
      · obtain ⟨b1, b2, b3⟩ := EX.ev_good y s f1 (hl y (by simp)).1 (hl y (by simp)).2 hs _ _ h; exact ⟨b1, by omega, b3⟩
      · obtain ⟨b1, b2, b3⟩ := EX.ev_good z s f1 (hl z (by simp)).1 (hl z (by simp)).2 hs _ _ h; exact ⟨b1, by omega, b3⟩
theorem EX.evOv_good : ∀ (o : Int) (l : List EX) (s : ScT) (f : Int), (∀ x ∈ l, x.Fine ∧ x.wf) → s.good → OkE f 0 (EX.evOv o l s f)
  | o, [], s, f, hl, hs, v, f', h => by unfold EX.evOv at h; cases h
  | o, [_], s, f, hl, hs, v, f', h => by unfold EX.evOv at h; cases h
  | o, x :: y :: _, s, f, hl, hs, v, f', h => by
    unfold EX.evOv at h
    have h1 : OkE f 0 (x.ev s f) := fun u f1 h1 => by
      obtain ⟨a1, a2, a3⟩ := EX.ev_good x s f (hl x (by simp)).1 (hl x (by simp)).2 hs _ _ h1
      exact ⟨a1, by omega, a3⟩
    exact overE_good (g := fun it f => y.ev { s with it } f) h1 (fun z g hz hg u f1 h2 => by
      obtain ⟨a1, a2, a3⟩ := EX.ev_good y { s with it := z } g (hl y (by simp)).1 (hl y (by simp)).2 ⟨hs.st, hs.ev, hz⟩ _ _ h2
      exact ⟨a1, by omega, a3⟩) v f' h
end
end Go.Proofs.YtjhonjdhanlbkaaGreat.J

/- A function value is called that may panic. -/
namespace Go.Proofs.YtjhonjdhanlbkaaGreat.J
open Go Go.RowKit
section
variable {P : Program} {E : Ent} {Q : Exit → St → Prop} {n : Nat} {env : List (Nat × AV)} {own : List Own} {F : List (Value × AV)} {D : List Deferred} {ops : Array Oper} {rest : List Oper}
variable {ty : TypeId} {pos : String} {af : Array Edge} {d : Nat}
theorem JL.callPV (ms : List Cd) {f : FuncId} {fo : Operand} {fi ca : List Value} {l : List Operand} {tys : Array TypeId} {xs zs : List AV} {ok : Prop} {e : Value} {Rx : AV → List Own → Prop} {G : List (Value × AV)} (hf : goFn P f = true) (hd : Nat.blt d n = true)
    (hfo : Ev E ⟨n, env, own, F, D⟩ fo (.c (.func (.func f) fi.toArray ca.toArray))) (hG : Lent G (selL ms own)) (hargs : ∀ E', EvL E' ⟨n, env, selP ms own ++ selK ms own, G ++ F, D⟩ l xs) (hzs : fi.map AV.c ++ xs ++ ca.map AV.c = zs) (hAC : AC P f (selP ms own) zs (PanR ok e Rx))
    (hfr : selL ms own = [] ∨ FreshX Rx)
    (hret : ok → ∀ x own', Rx x own' → JL P E ops rest ⟨n, (d, x) :: env, mrg ms own' own, F, D⟩ Q)
    (hpan : ¬ ok → Q (.panic [{ v := e, recovered := false }]) ⟨n, env, mrg ms [] own, F, D⟩) :
    JL P E ops (⟨some d, .call ⟨.value fo, l.toArray, tys⟩, ty, pos, af, none⟩ :: rest) ⟨n, env, own, F, D⟩ Q :=
  JL.callG ms hf hd hfo hG hargs hzs hAC (hfr.imp id fun h r o hR => by
      rcases hR with ⟨_, x, h1, h2⟩ | ⟨_, h1, h2⟩
      · subst h1; exact h x o h2
      · subst h1 h2; exact ⟨trivial, fun x hx => by cases hx⟩)
    (fun x own' hR => by
      rcases hR with ⟨h0, y, h1, h2⟩ | ⟨_, h1, _⟩
      · cases h1; exact hret h0 _ _ h2
      · cases h1)
    (fun v own' hR => by
      rcases hR with ⟨_, y, h1, _⟩ | ⟨h0, h1, h2⟩
      · cases h1
      · cases h1; subst h2; exact hpan h0)
end
end Go.Proofs.YtjhonjdhanlbkaaGreat.J

/- A place within an owned value: what the whole is when another value stands there. -/
namespace Go.Proofs.YtjhonjdhanlbkaaGreat.J
open Go Go.RowKit
theorem Reown.fold {b cap : Nat} {ys : List AV} {v : Value} {e : ETy} {xs : List (List AV)} (hv : v = sv b 0 xs.length (cap + 1)) (hle : xs.length ≤ cap + 1)
    (hs : ∀ x ∈ xs, x.length = e.sz) (hl : ys.length = (cap + 1) * e.sz) (hp : ys.take xs.flatten.length = xs.flatten) : Reown [.box b ys] [.arr v e xs] := by
  subst hv
  refine ⟨fun x => by simp [fps_cons, fps_nil, Own.fp, arrFp, sv], fun w A h => ?_⟩
  simp only [List.forall_mem_cons, List.not_mem_nil, false_implies, implies_true, and_true] at h ⊢
  simp only [Own.ok] at h ⊢
  obtain ⟨us, t, h1, h2, h3⟩ := h
  refine .inr ⟨b, cap, us, t, rfl, h1, hle, ⟨by rw [h2, hl], fun k u hu => ?_⟩, hs, fun k y hk => ?_⟩
  · have hk : k < ys.length := by rw [← h2]; exact (Array.getElem?_eq_some_iff.1 hu).1
    obtain ⟨u', g1, g2, _⟩ := h3 k _ (List.getElem?_eq_getElem hk)
    rw [Nat.zero_add, hu] at g1
    cases g1; exact g2
  · refine h3 k y ?_
    have hk1 := (List.getElem?_eq_some_iff.1 hk).1
    rw [← hp] at hk
    rw [List.getElem?_take] at hk
    rwa [if_pos hk1] at hk
theorem Reown.hd {o : Own} {a l : List Own} (h : Reown [o] a) : Reown (o :: l) (a ++ l) :=
  (Reown.perm (List.perm_append_singleton o l).symm).trans ((Reown.left (c := l) h).trans (Reown.perm List.perm_append_comm))
def Law (b : Nat) (pre post : List AV) (ctx : Own) (b0 : Nat) (plug : V → V) : Prop :=
  ∀ (x : V) (kv iv : Value) (ok oi : Own), x.wf → VTr x kv iv ok oi → ∃ kw iw okw oiw, VTr (plug x) kw iw okw oiw ∧ Reown [.box b (pre ++ x.raw kv iv ++ post), ok, oi, ctx] [.box b0 ((plug x).raw kw iw), okw, oiw]
theorem Law.root (b : Nat) : Law b [] [] (.grp []) b id := fun x kv iv ok oi _ h => ⟨kv, iv, ok, oi, h, by
  rw [List.append_nil, List.nil_append]
  exact Reown.msk [.p, .p, .p] _ rfl⟩
theorem kids_at {is : List V} {cs : List (List AV)} {us : List Value} {o : Own} {i : Nat} (hlt : i < is.length) (hl : cs.length = is.length) (h3 : ∀ x ∈ cs, x.length = 5) (hf : cs.flatten = us.map AV.c) (h1 : us.all (·.oneCell') = true) (h : TrL (V.css true is).flatten us o) :
    ∃ kv iv ok oi ob oa u1 u3, cs[i]? = some ((is[i]'hlt).raw kv iv) ∧ VTr (is[i]'hlt) kv iv ok oi ∧ TrL (V.css true (is.take i)).flatten u1 ob ∧ TrL (V.css true (is.drop (i + 1))).flatten u3 oa ∧ (cs.take i).flatten = u1.map AV.c ∧ (cs.drop (i + 1)).flatten = u3.map AV.c ∧
      u1.all (·.oneCell') = true ∧ u3.all (·.oneCell') = true ∧ Reown [o] [ok, oi, ob, oa] := by
  have hsp : (V.css true is).flatten = (V.css true (is.take i)).flatten ++ (V.css true (is.drop i)).flatten := by
    rw [← List.flatten_append, ← V.css_append, List.take_append_drop]
  rw [hsp] at h
  obtain ⟨u1, u2, o1, o2, rfl, g1, g2, g3⟩ := h.split
  rw [List.all_append, Bool.and_eq_true] at h1
  have hlen : (cs.take i).flatten.length = u1.length := by
    rw [← g1.length, flatten_length (sz := 5) _ (fun x hx => h3 x (List.mem_of_mem_take hx)), flatten_length (sz := 5) _ (V.css_sz true _), V.css_length, List.length_take, List.length_take, hl]
  have hf2 : (cs.take i).flatten ++ (cs.drop i).flatten = u1.map AV.c ++ u2.map AV.c := by
    rw [← List.flatten_append, List.take_append_drop, hf, List.map_append]
  obtain ⟨k1, k2⟩ := List.append_inj hf2 (by simpa using hlen)
  obtain ⟨kv, iv, ok, oi, u3, o3, e1, e2, e3, e4, e5, e6⟩ := kids_take hlt hl h3 k2 h1.2 g2
  refine ⟨kv, iv, ok, oi, o1, o3, u1, u3, e1, e2, g1, e5, k1, e3, h1.1, e4, ?_⟩
  exact (Reown.pair g3).trans ((Reown.cons e6).trans (Reown.perm (by
    simpa using (List.perm_append_comm (l₁ := [o1]) (l₂ := [ok, oi])).append_right [o3])))
theorem set_parts {α : Type} {l : List α} {i : Nat} {x : α} (h : i < l.length) : l.set i x = l.take i ++ x :: l.drop (i + 1) := by
  rw [List.set_eq_take_append_cons_drop, if_pos h]
theorem Law.into {b b0 b2 cap i : Nat} {pre post : List AV} {ctx ok ob oa : Own} {plug : V → V} {u : V} {kv iv : Value} {cs : List (List AV)} {sp u1 u3 : List Value} (hL : Law b pre post ctx b0 plug) (huw : u.wf) (hk1 : kv.oneCell' = true) (hi1 : iv.oneCell' = true) (hks : Tr (.sl true false eStr (keysAV u.keys)) kv ok)
    (hlt : i < u.items.length) (hcl : cs.length = u.items.length) (h5 : ∀ x ∈ cs, x.length = 5) (hiv : iv = sv b2 0 cs.length (cap + 1)) (hcap : cs.length ≤ cap + 1) (hsz : cs.flatten.length + sp.length = (cap + 1) * 5)
    (t1 : TrL (V.css true (u.items.take i)).flatten u1 ob) (t3 : TrL (V.css true (u.items.drop (i + 1))).flatten u3 oa) (f1 : (cs.take i).flatten = u1.map AV.c) (f3 : (cs.drop (i + 1)).flatten = u3.map AV.c) (a1 : u1.all (·.oneCell') = true) (a3 : u3.all (·.oneCell') = true) :
    Law b2 (cs.take i).flatten ((cs.drop (i + 1)).flatten ++ sp.map AV.c) (.grp [.box b (pre ++ u.raw kv iv ++ post), ok, ob, oa, ctx]) b0 (fun x => plug (u.setAt i x)) := fun x kx ix okx oix hxw hx => by
  have hclt : i < cs.length := by omega
  have hflat : (cs.set i (x.raw kx ix)).flatten = (u1 ++ (x.vals kx ix ++ u3)).map AV.c := by
    rw [set_parts hclt, List.flatten_append, List.flatten_cons, f1, f3, V.raw_eq, List.map_append, List.map_append]
  have hrl : (x.raw kx ix).length = 5 := rfl
  have h5' : ∀ z ∈ cs.set i (x.raw kx ix), z.length = 5 := fun z hz => (List.mem_or_eq_of_mem_set hz).elim (h5 z) fun e => e ▸ rfl
  have hits : u.items.length * 80 ≤ reach := by obtain ⟨k, b, t, ks, is⟩ := u; exact huw.inv.2.2.2.2.1
  have htl : TrL (V.css true (u.items.set i x)).flatten (u1 ++ (x.vals kx ix ++ u3)) (.grp [ob, .grp [.grp [okx, oix], oa]]) := by
    rw [set_parts hlt, V.css_append, List.flatten_append, V.css, List.flatten_cons]
    exact t1.append (hx.trL.append t3 (.refl _)) (.refl _)
  have hIt : Tr (.sl true false eV (V.css true (u.items.set i x))) iv (.grp [.arr iv eV (cs.set i (x.raw kx ix)), .grp [ob, .grp [.grp [okx, oix], oa]]]) :=
    items_tr hflat (by simp [hcl]) h5' (by rw [List.all_append, List.all_append, a1, hx.ones, a3]; rfl) (by simpa using hits) htl
  have hV : VTr (u.setAt i x) kv iv ok (.grp [.arr iv eV (cs.set i (x.raw kx ix)), .grp [ob, .grp [.grp [okx, oix], oa]]]) := ⟨hk1, hi1, hks, hIt⟩
  obtain ⟨kw, iw, okw, oiw, g1, g2⟩ := hL _ _ _ _ _ (V.setAt_wf huw hxw) hV
  refine ⟨kw, iw, okw, oiw, g1, Reown.trans ?_ g2⟩
  have hfold : Reown [.box b2 ((cs.take i).flatten ++ x.raw kx ix ++ ((cs.drop (i + 1)).flatten ++ sp.map AV.c))] [.arr iv eV (cs.set i (x.raw kx ix))] := by
    have he : (cs.take i).flatten ++ x.raw kx ix ++ ((cs.drop (i + 1)).flatten ++ sp.map AV.c) = (cs.set i (x.raw kx ix)).flatten ++ sp.map AV.c := by
      rw [set_parts hclt, List.flatten_append, List.flatten_cons]; simp
    have hl2 : (cs.set i (x.raw kx ix)).flatten.length = cs.flatten.length := by
      rw [flatten_length (sz := 5) _ h5', flatten_length (sz := 5) _ h5, List.length_set]
    rw [he]
    refine Reown.fold (cap := cap) (by rw [List.length_set]; exact hiv) (by rw [List.length_set]; exact hcap) h5' ?_ (List.take_left)
    rw [List.length_append, List.length_map, hl2]; exact hsz
  refine (Reown.hd (l := [okx, oix, .grp [.box b (pre ++ u.raw kv iv ++ post), ok, ob, oa, ctx]]) hfold).trans ?_
  refine ⟨fun y => by simp only [fps_cons, fps_nil, fp_grp, List.count_append, List.count_nil, List.singleton_append, V.raw, V.setAt, V.kind, V.bits, V.text]; simp only [Own.fp]; omega, fun w A h => ?_⟩
  simp only [List.forall_mem_cons, List.singleton_append, ok_grp, List.not_mem_nil, false_implies, implies_true, and_true] at h ⊢
  obtain ⟨q1, q2, q3, q4, q5, q6, q7, q8⟩ := h
  exact ⟨q4, q5, ⟨q1, q6, ⟨q2, q3⟩, q7⟩, q8⟩
structure At where
  b : Nat
  off : Nat
  pre : List AV
  post : List AV
  u : V
  kv : Value
  iv : Value
  ok : Own
  oi : Own
  ctx : Own
  plug : V → V
structure At.Ok (z : At) (b0 : Nat) : Prop where
  off : z.pre.length = z.off
  tr : VTr z.u z.kv z.iv z.ok z.oi
  law : Law z.b z.pre z.post z.ctx b0 z.plug
  fine : z.u.Fine
  wf : z.u.wf
def holeC (z : At) (u : V) (kv iv : Value) : List AV := z.pre ++ u.raw kv iv ++ z.post
theorem holeC_eq (z : At) (u : V) (kv iv : Value) : holeC z u kv iv = z.pre ++ (u.raw kv iv ++ z.post) := List.append_assoc _ _ _
theorem hole_load {z : At} {u : V} {kv iv : Value} (h : z.pre.length = z.off) : ((holeC z u kv iv).drop z.off).take 5 = u.raw kv iv := by
  rw [holeC_eq, ← h, List.drop_left]
  exact List.take_left' rfl
theorem hole_at {z : At} {u : V} {kv iv : Value} (h : z.pre.length = z.off) (k : Nat) (hk : k < 5) : (holeC z u kv iv)[z.off + k]? = (u.raw kv iv)[k]? := by
  rw [holeC_eq, List.getElem?_append_right (by omega), List.getElem?_append_left (by rw [show (u.raw kv iv).length = 5 from rfl]; omega)]
  congr 1; omega
theorem splice_mid {α : Type} {a l c ys : List α} {k : Nat} (h : k + ys.length ≤ l.length) : splice (a ++ (l ++ c)) (a.length + k) ys = a ++ (splice l k ys ++ c) := by
  unfold splice
  rw [List.take_append, List.take_of_length_le (by omega), Nat.add_sub_cancel_left, List.take_append_of_le_length (by omega), Nat.add_assoc, List.drop_append, List.drop_eq_nil_of_le (by omega), List.nil_append, Nat.add_sub_cancel_left, List.drop_append_of_le_length h]
  simp
theorem hole_set {z : At} {u : V} {kv iv : Value} (h : z.pre.length = z.off) {k : Nat} {x : AV} (hk : k < 5) : splice (holeC z u kv iv) (z.off + k) [x] = z.pre ++ (splice (u.raw kv iv) k [x] ++ z.post) := by
  rw [holeC_eq, ← h, splice_mid (by rw [show (u.raw kv iv).length = 5 from rfl]; simp; omega)]
theorem hole_put {z : At} {u x : V} {kv iv kx ix : Value} (h : z.pre.length = z.off) : splice (holeC z u kv iv) z.off (x.raw kx ix) = holeC z x kx ix := by
  have := splice_mid (a := z.pre) (l := u.raw kv iv) (c := z.post) (ys := x.raw kx ix) (k := 0) (by simp [V.raw])
  rw [Nat.add_zero, h] at this
  rw [holeC_eq, this, holeC_eq]
  rfl
theorem hole_len (z : At) (u : V) (kv iv : Value) (h : z.pre.length = z.off) : (holeC z u kv iv).length = z.off + 5 + z.post.length := by
  rw [holeC_eq, List.length_append, List.length_append, show (u.raw kv iv).length = 5 from rfl]; omega
section
variable {P : Program} {E : Ent} {st : St} {t et ty : TypeId} {pos : String} {af : Array Edge} {dd : Option Tmp} {gd : Option (Nat × Bool)} {x y : Operand} {g : Bool} {n B : Nat}
theorem QW.index_c {b off len cap m : Nat} {k : IntKind} {i : Int} (hU : P.underlying t = some (.slice et)) (hT : tySz P et = some (g, n, B)) (hx : Ev E st x (.c (sv b off len cap))) (hi : Ev E st y (.c (.int k i))) (hm : i = (m : Int)) (hlt : m < len) :
    QW P E st ⟨dd, .indexAddr t x y, ty, pos, af, gd⟩ (.c (.pointer (some ⟨b, off + m * n, none⟩))) := .pure fun A a w hs => by
  subst hm
  refine ⟨.pointer (some ⟨b, off + m * n, none⟩), ?_, .c _⟩
  simp only [execOp, hx.eq hs, hi.eq hs, Instr.indexAt, asIntOf, Sem.run_bind, Sem.run_pure, Result.andThen_ok, run_underlying _ hU]
  rw [if_pos (by omega)]
  simp [run_sizeOf hT, add_at]
end
end Go.Proofs.YtjhonjdhanlbkaaGreat.J

/- Guards that are known; arrays behind a pointer. -/
namespace Go.Proofs.YtjhonjdhanlbkaaGreat.J
open Go Go.RowKit
section
variable {P : Program} {E : Ent} {Q : Exit → St → Prop} {n : Nat} {env : List (Nat × AV)} {own : List Own} {F : List (Value × AV)} {D : List Deferred} {ops : Array Oper} {rest : List Oper}
variable {ty : TypeId} {pos : String} {af : Array Edge} {d : Option Nat} {op : Op}
theorem SatA.yield {A : Foot} {a : Act} {w : World} {st : St} (hA : SatA E A st a w) {j s : Nat} {g : Bool} (hs : (ops[j]?).bind (·.dst) = some s) (hl : lk st.env s = some (.c (.bool g))) : yielded ops a.tmps j = some g := by
  have h1 := (hA.env s _ hl).eq
  unfold yielded
  rw [hs]
  simp only [Option.bind_some]
  rw [Array.getD_eq_getD_getElem?] at h1
  cases h2 : a.tmps[s]? with
  | none => rw [h2] at h1; simp [undef] at h1
  | some v => rw [h2] at h1; simp at h1; subst h1; rfl
theorem JL.ungd {j s : Nat} {want g : Bool} (hs : (ops[j]?).bind (·.dst) = some s) (hl : lk env s = some (.c (.bool g))) (hw : g = want) (h : JL P E ops (⟨d, op, ty, pos, af, none⟩ :: rest) ⟨n, env, own, F, D⟩ Q) :
    JL P E ops (⟨d, op, ty, pos, af, some (j, want)⟩ :: rest) ⟨n, env, own, F, D⟩ Q := fun a w ⟨A, hA⟩ => by
  have hy := hA.yield hs hl
  have h1 := h a w ⟨A, hA⟩
  unfold wpListIn at h1 ⊢
  rw [if_pos (by simp [Region.wanted])] at h1
  rw [if_pos (by simp [Region.wanted, hy, hw])]
  exact h1
theorem JL.gskip {d j s : Nat} {want g : Bool} (hs : (ops[j]?).bind (·.dst) = some s) (hn : Nat.blt d n = true) (hl : lk env s = some (.c (.bool g))) (hw : (g == want) = false)
    (h : JL P E ops rest ⟨n, (d, .wh false (.c .nilIface)) :: env, own, F, D⟩ Q) : JL P E ops (⟨some d, op, ty, pos, af, some (j, want)⟩ :: rest) ⟨n, env, own, F, D⟩ Q := fun a w ⟨A, hA⟩ => by
  have hy := hA.yield hs hl
  unfold wpListIn
  rw [if_neg (by simp only [Region.wanted, hy]; simpa using hw)]
  exact ⟨fun _ _ => trivial, h _ _ ⟨A, hA.put (blt_lt hn) (.wh _ _ _ (fun h => by cases h) fun _ => rfl)⟩⟩
variable {st : St} {x y t et s0 : TypeId}
theorem QW.pick_andT {b : Bool} {x y : Operand} (hx : Ev E st x (.c (.bool true))) (hy : Ev E st y (.c (.bool b))) : QW P E st ⟨d, .pick x y (.const (.bool false)), ty, pos, af, none⟩ (.c (.bool b)) := .pure fun A a w hs =>
  ⟨_, by simp only [execOp, hx.eq hs, asBool, Sem.run_bind, Sem.run_pure, Result.andThen_ok]; rfl, by rw [if_pos trivial, hy.eq hs]; exact .c _⟩
theorem QW.pick_andF {x y : Operand} (hx : Ev E st x (.c (.bool false))) : QW P E st ⟨d, .pick x y (.const (.bool false)), ty, pos, af, none⟩ (.c (.bool false)) := .pure fun A a w hs =>
  ⟨_, by simp only [execOp, hx.eq hs, asBool, Sem.run_bind, Sem.run_pure, Result.andThen_ok]; rfl, by simp [Act.eval]; exact .c _⟩
theorem QW.pick_orF {b : Bool} {x y : Operand} (hx : Ev E st x (.c (.bool false))) (hy : Ev E st y (.c (.bool b))) : QW P E st ⟨d, .pick x (.const (.bool true)) y, ty, pos, af, none⟩ (.c (.bool b)) := .pure fun A a w hs =>
  ⟨_, by simp only [execOp, hx.eq hs, asBool, Sem.run_bind, Sem.run_pure, Result.andThen_ok]; rfl, by simp only [Bool.false_eq_true, if_false]; rw [hy.eq hs]; exact .c _⟩
theorem QW.pick_orT {x y : Operand} (hx : Ev E st x (.c (.bool true))) : QW P E st ⟨d, .pick x (.const (.bool true)) y, ty, pos, af, none⟩ (.c (.bool true)) := .pure fun A a w hs =>
  ⟨_, by simp only [execOp, hx.eq hs, asBool, Sem.run_bind, Sem.run_pure, Result.andThen_ok]; rfl, by simp [Act.eval]; exact .c _⟩
variable {g : Bool} {sz B : Nat} {k : IntKind} {i : Int} {x y lo : Operand} {gd : Option (Nat × Bool)}
theorem QW.index_p {b off ln m off' : Nat} (hU : P.underlying t = some (.array ln et)) (hT : tySz P et = some (g, sz, B)) (hx : Ev E st x (.c (.pointer (some ⟨b, off, none⟩)))) (hi : Ev E st y (.c (.int k i))) (hm : i = (m : Int)) (hlt : m < ln) (ho : off + m * sz = off') :
    QW P E st ⟨d, .indexAddr t x y, ty, pos, af, gd⟩ (.c (.pointer (some ⟨b, off', none⟩))) := .pure fun A a w hs => by
  subst hm ho
  refine ⟨.pointer (some ⟨b, off + m * sz, none⟩), ?_, .c _⟩
  simp only [execOp, hx.eq hs, hi.eq hs, Instr.indexAt, asIntOf, Instr.sureAddr, Sem.run_bind, Sem.run_pure, Result.andThen_ok, run_underlying _ hU]
  rw [if_pos (by omega)]
  simp [run_sizeOf hT, add_at]
theorem QW.slice_pL {b off ln l off' : Nat} (hU : P.underlying t = some (.array ln et)) (hT : tySz P et = some (g, sz, B)) (hx : Ev E st x (.c (.pointer (some ⟨b, off, none⟩)))) (hlo : Ev E st lo (.c (.int k i))) (hi : i = (l : Int)) (hl : l ≤ ln) (ho : (if ln = l then off else off + l * sz) = off') :
    QW P E st ⟨d, .slice t x (some lo) none none, ty, pos, af, gd⟩ (.c (sv b off' (ln - l) (ln - l))) := .pure fun A a w hs => by
  refine ⟨sv b off' (ln - l) (ln - l), ?_, .c _⟩
  subst ho
  have e : (Instr.sliceAt t (.pointer (some ⟨b, off, none⟩)) (some (.int k (l : Int))) none none).run P w = .ok (sv b (if ln = l then off else off + l * sz) (ln - l) (ln - l)) w := by
    simp only [Instr.sliceAt, Instr.sureAddr, Instr.sliceBounds, Sem.run_bind, Sem.run_pure, Result.andThen_ok, run_underlying _ hU, run_sizeOf hT, run_bound hl]
    split
    · rfl
    · rw [add_at]
  simp only [execOp, hx.eq hs, Option.map_some, Option.map_none, EvBnd hlo hi hs, Sem.run_bind, e, Result.andThen_ok, Sem.run_pure]
theorem QW.box_str (j : Nat) {b off len cap : Nat} {ys : List AV} {l : List UInt8} {e8 : TypeId} (hS : P.underlying s0 = some (.slice e8)) (hT : P.underlying t = some .string) (hE : P.underlying e8 = some (.int .u8)) (hx : Ev E st x (.c (sv b off len cap)))
    (ho : st.own[j]? = some (.box b ys)) (hy : (ys.drop off).take len = l.map fun b => .c (.int .u8 (b.toNat : Int))) (hl : l.length = len) : QW P E st ⟨d, .convert s0 t x, ty, pos, af, gd⟩ (.c (str l)) := .pure fun A a w hs => by
  obtain ⟨us, t', hb, _, hc⟩ := hs.box j ho
  have hc2 := (hc.drop off).take len
  rw [Nat.zero_add, hy] at hc2
  refine ⟨str l, ?_, .c _⟩
  have hrun : (Conv.bytesToString (sv b off len cap)).run P w = .ok (str l) w := by rw [← hl]; exact run_bytes hb hc2 cap
  simp only [execOp, hx.eq hs, Go.convert, Sem.run_bind, run_underlying _ hS, run_underlying _ hT, Result.andThen_ok]
  simp only [run_underlying _ hE, Result.andThen_ok, hrun, Sem.run_bind, Sem.run_pure]
end
end Go.Proofs.YtjhonjdhanlbkaaGreat.J

/- Walks: the digits of a whole number. -/
namespace Go.Proofs.YtjhonjdhanlbkaaGreat.J
open Go Go.RowKit
set_option maxRecDepth 10000
set_option maxHeartbeats 4000000
def octC (d : Str) : List AV := d.map fun b => .c (.int .u8 (b.toNat : Int))
def dgB (d : Str) : List AV := List.replicate (20 - d.length) (.c (.int .u8 0)) ++ octC d
theorem octC_len (d : Str) : (octC d).length = d.length := by simp [octC]
theorem dgB_len {d : Str} (h : d.length ≤ 20) : (dgB d).length = 20 := by simp [dgB, octC_len]; omega
theorem dgB_step {d : Str} (c : UInt8) (h : d.length < 20) : splice (dgB d) (19 - d.length) [.c (.int .u8 (c.toNat : Int))] = dgB (c :: d) := by
  obtain ⟨k, hk⟩ : ∃ k, 20 - d.length = k + 1 := ⟨19 - d.length, by omega⟩
  have h1 : 19 - d.length = k := by omega
  unfold dgB splice
  rw [hk, h1, List.length_singleton, List.take_append_of_le_length (by simp), List.take_replicate, Nat.min_eq_left (by omega), List.drop_append_of_le_length (by simp), List.drop_replicate, Nat.sub_self, List.length_cons, show 20 - (d.length + 1) = k by omega]
  simp [octC]
theorem dgB_drop {d : Str} (h : d.length ≤ 20) : ((dgB d).drop (20 - d.length)).take d.length = d.map fun b => .c (.int .u8 (b.toNat : Int)) := by
  unfold dgB
  rw [List.drop_append_of_le_length (by simp), List.drop_replicate, Nat.sub_self, List.replicate_zero, List.nil_append]
  exact List.take_of_length_le (by simp [octC])
theorem natD_step {n m : Nat} {d : Str} (h : natD n = (if m = 0 ∧ d ≠ [] then [] else natD m) ++ d) (hc : 0 < m ∨ d = []) : natD n = (if m / 10 = 0 ∧ (UInt8.ofNat (48 + m % 10) :: d) ≠ [] then [] else natD (m / 10)) ++ UInt8.ofNat (48 + m % 10) :: d := by
  rw [if_neg (fun h => hc.elim (fun h1 => by omega) h.2)] at h
  rw [h]
  by_cases hm : m < 10
  · rw [if_pos ⟨by omega, by simp⟩, natD, if_pos hm, show m % 10 = m by omega]; rfl
  · rw [if_neg (fun h => by omega), natD, if_neg hm, List.append_assoc]; rfl
theorem digC {m : Nat} : ((UInt8.ofNat (48 + m % 10)).toNat : Int) = 48 + ((m % 10 : Nat) : Int) := by
  rw [UInt8.toNat_ofNat', Nat.mod_eq_of_lt (by omega)]; omega
def digE (b : Nat) : AV := .tup [.c (str (if intE b = 0 then intD (intV b) else [])), .c (.int .i64 (if intE b = 0 then 0 else 7))]
theorem digits_ok (b : Nat) (hb : b < 2 ^ 64) : Fn Tryz.prog 76 [.c (.int .u64 (b : Int))] (digE b) := by
  refine AC.of_J Tryz.func76 rfl Tryz.ntmps76 rfl fun w0 A0 => ?_
  refine Zs (Zq rfl (QW.assign .const) (Zq rfl (QW.assign .const) (Zn (Zs (Zq rfl (QW.move (.tmp rfl)) (Zq rfl (QW.call gofn100 (.cons (.tmp rfl) .nil) (int_ok _ (by assumption))) ?_))))))
  refine Zq rfl (QW.move (.tmp rfl)) (Zq rfl (QW.extract (.tmp rfl) rfl) (Zq rfl (QW.extract (.tmp rfl) rfl) (Zq rfl (QW.assign (.tmp rfl)) (Zq rfl (QW.assign (.tmp rfl)) (Zn (J.seq (Zs (Zq rfl (QW.move (.tmp rfl)) (Zq rfl (QW.neq (.tmp rfl) .const) ?_)))))))))
  refine Zn ?_
  refine J.cond (.tmp rfl) (fun c1 => ?_) (fun c1 => ?_)
  · skip
    have hne : ¬ intE b = 0 := by simpa using c1
    exact Zs (Zq rfl (QW.assign .const) (Zq rfl (QW.assign .const) (Zn (J.ret (thenQ.r (Zr [] (RetEv.two rfl (REv.tmp rfl lr) (REv.tmp rfl lr)) rfl ⟨by rw [digE, if_neg hne, if_neg hne], rfl⟩))))))
  have he0 : intE b = 0 := by simpa using c1
  have hbd := intV_bounds b he0
  obtain ⟨v, hv⟩ : ∃ v, intV b = v := ⟨_, rfl⟩
  rw [hv] at hbd
  obtain ⟨N, hN⟩ : ∃ N, v.natAbs = N := ⟨_, rfl⟩
  have hN16 : N < 10000000000000000 := by omega
  refine Zk (Zs (JL.alloc z138 rfl rfl fun b6 => Zn (Zs (Zq rfl (QW.assign .const) (Zn (J.seq (Zs (Zq rfl (QW.move (.tmp rfl)) ?_))))))))
  refine Zq rfl (QW.move (.tmp rfl)) (Zq rfl (QW.neg (.tmp rfl) (c := -v) (by rw [hv, Int.zero_sub]; exact w64 (by omega))) ?_)
  refine Zq rfl ((QW.max2 (.tmp rfl) (.tmp rfl)).conv (show _ = AV.c (.int .i64 (N : Int)) by rw [hv]; congr 2; omega)) ?_
  refine Zq rfl (QW.assign (.tmp rfl)) (Zn (J.block (J.loopK (ι := Str × Nat) [2, 3, 4, 6] (fun ⟨d, m⟩ => [(7, .c (.int .i64 ((20 - d.length : Nat) : Int))), (8, .c (.int .i64 (m : Int)))]) (fun ⟨d, m⟩ oo => List.set oo 0 (.box b6 (dgB d))) (fun ⟨d, m⟩ => m ≤ N ∧ d.length ≤ 16 ∧ m < 10 ^ (16 - d.length) ∧ natD N = (if m = 0 ∧ d ≠ [] then [] else natD m) ++ d) (fun ⟨d, m⟩ => m + (if d = [] then 1 else 0)) ⟨[], N⟩ (⟨Nat.le_refl _, by simp, by simpa using hN16, by simp⟩) (Wk.re (.cons rfl lr (.cons rfl lr (.cons rfl lr (.cons rfl lr (.cons rfl lr (.cons rfl lr .nil)))))) (Reown.refl _) (fun _ h => by first | exact h | simp [h])) ?_)))
  intro ⟨d, m⟩ ⟨hmN, hd16, hm10, hnd⟩
  refine J.conv (by (try simp only [nl, stepsO, valO, nthO, curO, mrg, AV.cellsOf, splice_zero, splice_succ, Nat.reduceAdd]); rfl) ?_
  refine J.seq (Zs (Zq rfl (QW.move (.tmp rfl)) (Zq rfl (QW.gtr (.tmp rfl) .const) (Zq rfl (QW.move (.tmp rfl)) (Zg rfl (fun hg => (QW.move (.tmp rfl))) (Zg rfl (fun hg => (QW.eql (.when rfl hg) .const)) (Zq rfl (QW.pick_or (.tmp rfl) (.tmp rfl)) (Zn ?_))))))))
  refine J.cond (.tmp rfl) (fun c2 => ?_) (fun c2 => ?_)
  · skip
    have hc : 0 < m ∨ d = [] := by
      simp at c2
      exact c2.imp (fun h => h) (fun h => List.eq_nil_of_length_eq_zero (by omega))
    have hd15 : d.length ≤ 15 := by
      rcases hc with hc | hc
      · exact Nat.lt_succ_iff.1 (Nat.lt_of_le_of_ne hd16 fun h => by rw [h] at hm10; simp at hm10; omega)
      · subst hc; exact Nat.zero_le _
    obtain ⟨q, hq⟩ : ∃ q, 16 - d.length = q + 1 := ⟨15 - d.length, by omega⟩
    rw [hq, Nat.pow_succ] at hm10
    refine Zk (J.seq (J.block (Zs (Zq rfl (QW.move (.tmp rfl)) (Zq rfl (QW.sub (.tmp rfl) .const (c := ((19 - d.length : Nat) : Int)) (w64n (by omega) (by omega))) (Zq rfl (QW.assign (.tmp rfl)) (Zn (J.region_lit (Zq rfl (QW.move (.tmp rfl)) ?_)))))))))
    refine Zq rfl (QW.move (.tmp rfl)) (Zq rfl (QW.rem (.tmp rfl) .const (by decide) (c := ((m % 10 : Nat) : Int)) (Int.ofNat_tmod m 10).symm) ?_)
    refine Zq rfl (QW.conv_int us3 iu5 (.tmp rfl) (c := ((m % 10 : Nat) : Int)) (wu8 (by omega))) (Zq rfl (QW.add .const (.tmp rfl) (c := ((UInt8.ofNat (48 + m % 10)).toNat : Int)) (by rw [digC]; exact wu8 (by omega))) ?_)
    refine Zq rfl (QW.index_p (b := b6) (off := 0) (ln := 20) (et := 5) (off' := 19 - d.length) (m := 19 - d.length) (by kernel_rfl) ty5 (.tmp rfl) (.tmp rfl) rfl (by omega) (by simp)) ?_
    refine JL.store_box 0 ty5 (.tmp rfl) rfl (.tmp rfl) rfl rfl (by rw [dgB_len (by omega)]; exact Nat.ble_eq_true_of_le (by omega)) (dgB_step (UInt8.ofNat (48 + m % 10)) (by omega)) rfl ?_
    refine JL.nil (blkQ.n (thenQ.n (J.region_lit (Zq rfl (QW.move (.tmp rfl)) (Zq rfl (QW.quo (.tmp rfl) .const (by decide) (c := ((m / 10 : Nat) : Int)) (by rw [show (m : Int).tdiv 10 = ((m / 10 : Nat) : Int) from (Int.ofNat_tdiv m 10).symm]; exact w64 (by omega))) ?_)))))
    refine Zq rfl (QW.assign (.tmp rfl)) (Zn ?_)
    exact ⟨⟨UInt8.ofNat (48 + m % 10) :: d, m / 10⟩, ⟨by show m / 10 ≤ N; omega, by simp; omega, by rw [List.length_cons, show 16 - (d.length + 1) = q by omega]; exact Nat.div_lt_of_lt_mul (by omega), natD_step hnd hc⟩, hc.elim (fun h => by have := Nat.div_lt_self h (by decide : 1 < 10); show m / 10 + (if UInt8.ofNat (48 + m % 10) :: d = [] then 1 else 0) < m + (if d = [] then 1 else 0); rw [if_neg (by simp)]; omega) (fun h => by subst h; show m / 10 + (if UInt8.ofNat (48 + m % 10) :: ([] : Str) = [] then 1 else 0) < m + 1; rw [if_neg (by simp)]; omega), Wk.re (.cons rfl ((by rw [List.length_cons, show 20 - (d.length + 1) = 19 - d.length by omega]; exact .refl _)) (.cons rfl lr (.cons rfl lr (.cons rfl lr (.cons rfl lr (.cons rfl lr .nil)))))) (Reown.refl _) (fun _ h => by first | exact h | simp [h])⟩
  have hz : m = 0 ∧ d ≠ [] := by
    simp at c2
    exact ⟨by omega, fun h => by subst h; simp at c2⟩
  rw [if_pos hz, List.nil_append] at hnd
  have hd0 := hz.2
  have hd1 : 1 ≤ d.length := by cases d with | nil => exact absurd rfl hd0 | cons x r => simp
  refine J.exit (thenQ.x (thenQ.x (blkQ.hit (thenQ.n (J.seq (Zs (Zq rfl (QW.move (.tmp rfl)) (Zq rfl (QW.lss (.tmp rfl) .const) (Zn ?_)))))))))
  refine J.cond (.tmp rfl) (fun c3 => ?_) (fun c3 => ?_)
  · skip
    have hneg : v < 0 := by rw [← hv]; simpa using c3
    refine Zs (Zq rfl (QW.move (.tmp rfl)) (Zq rfl (QW.sub (.tmp rfl) .const (c := ((19 - d.length : Nat) : Int)) (w64n (by omega) (by omega))) (Zq rfl (QW.assign (.tmp rfl)) (Zn (J.region_lit (Zq rfl (QW.move (.tmp rfl)) (Zq rfl (QW.index_p (b := b6) (off := 0) (ln := 20) (et := 5) (off' := 19 - d.length) (m := 19 - d.length) (by kernel_rfl) ty5 (.tmp rfl) (.tmp rfl) rfl (by omega) (by simp)) ?_)))))))
    refine JL.store_box 0 ty5 (.tmp rfl) rfl .const rfl rfl (by rw [dgB_len (by omega)]; exact Nat.ble_eq_true_of_le (by omega)) (dgB_step 45 (by omega)) rfl ?_
    refine Zn (Zs (Zq rfl (QW.move (.tmp rfl)) (Zq rfl (by exact QW.slice_pL (b := b6) (off := 0) (ln := 20) (et := 5) (off' := 19 - d.length) (l := 19 - d.length) (by kernel_rfl) ty5 (.tmp rfl) (.tmp rfl) rfl (by omega) (by split <;> omega)) ?_)))
    refine Zq rfl (by exact QW.box_str 0 (l := 45 :: d) (e8 := 5) (by kernel_rfl) (by kernel_rfl) (by kernel_rfl) (.tmp rfl) rfl (by rw [show 20 - (19 - d.length) = (45 :: d).length by rw [List.length_cons]; omega, show 19 - d.length = 20 - (45 :: d).length by rw [List.length_cons]; omega]; exact dgB_drop (by rw [List.length_cons]; omega)) (by (simp; omega))) ?_
    exact Zq rfl (QW.assign (.tmp rfl)) (Zq rfl (QW.assign .const) (Zn (J.ret (Zr [.k] (RetEv.two rfl (REv.tmp rfl lr) (REv.tmp rfl lr)) rfl ⟨by rw [digE, if_pos he0, if_pos he0, hv, intD, if_pos hneg, hN, hnd], rfl⟩))))
  have hpos : ¬ v < 0 := by rw [← hv]; simpa using c3
  refine Zk (Zs (Zq rfl (QW.move (.tmp rfl)) (Zq rfl (by exact QW.slice_pL (b := b6) (off := 0) (ln := 20) (et := 5) (off' := 20 - d.length) (l := 20 - d.length) (by kernel_rfl) ty5 (.tmp rfl) (.tmp rfl) rfl (by omega) (by split <;> omega)) ?_)))
  refine Zq rfl (by exact QW.box_str 0 (l := d) (e8 := 5) (by kernel_rfl) (by kernel_rfl) (by kernel_rfl) (.tmp rfl) rfl (by rw [show 20 - (20 - d.length) = d.length by omega]; exact dgB_drop (by omega)) (by omega)) ?_
  exact Zq rfl (QW.assign (.tmp rfl)) (Zq rfl (QW.assign .const) (Zn (J.ret (Zr [.k] (RetEv.two rfl (REv.tmp rfl lr) (REv.tmp rfl lr)) rfl ⟨by rw [digE, if_pos he0, if_pos he0, hv, intD, if_neg hpos, hN, hnd], rfl⟩))))
end Go.Proofs.YtjhonjdhanlbkaaGreat.J

/- Events as plain data: a name and a value; lists of them. -/
namespace Go.Proofs.YtjhonjdhanlbkaaGreat.J
open Go Go.RowKit
/-! ### the page -/
end Go.Proofs.YtjhonjdhanlbkaaGreat.J

/- Items (effects on their way) and boxes of them, as plain data. -/
namespace Go.Proofs.YtjhonjdhanlbkaaGreat.J
open Go Go.RowKit
/-! ### the page -/
end Go.Proofs.YtjhonjdhanlbkaaGreat.J

/- Walks: slices.Insert of one element, slices.Delete of one. -/
namespace Go.Proofs.YtjhonjdhanlbkaaGreat.J
open Go Go.RowKit
set_option maxRecDepth 10000
set_option maxHeartbeats 4000000
theorem overStr : ∀ u v w, (callFunc 155 #[u, v]).run Tryz.prog w = ((Extern.SlicesOverlaps.overlaps #[26, 26] #[4] #[u, v]).run Tryz.prog w).andThen fun v w' => .ok (.value v) w' := fun u v w => run_callFunc_extern (P := Tryz.prog) Tryz.func155 (by kernel_rfl) (by kernel_rfl) (by kernel_rfl) (by kernel_rfl) _ w
theorem insStr_ok {v : Value} {xs : List (List AV)} {ys : List AV} {i : Nat} {fr clip : Bool} (hi : i ≤ xs.length) (hy : ys.length = 1) (hr : (xs.length + 1) * 16 ≤ reach) : AC Tryz.prog 150 [.arr v eStr xs] [.c v, .c (.int .i64 (i : Int)), .sl fr clip eStr [ys]] (RetR (CloneR eStr (xs.take i ++ [ys] ++ xs.drop i))) := by
  have hr2 := hr
  unfold reach at hr2
  refine AC.of_J Tryz.func150 rfl Tryz.ntmps150 rfl fun w0 A0 => ?_
  refine Zs (Zq rfl (QW.assign .const) (Zn (Zs (Zq rfl (QW.move (.tmp rfl)) (Zq rfl (QW.move (.tmp rfl)) (JL.cutAny 0 sl26 ty9 (.tmp rfl) rfl (.tmp rfl) rfl hi rfl fun u12 => Zn (Zs (Zq rfl (QW.move (.tmp rfl)) ?_))))))))
  refine Zq rfl (QW.len_sl sl26 (.tmp rfl)) (Zq rfl (QW.assign (.tmp rfl)) (Zn (J.seq (Zs (Zq rfl (QW.move (.tmp rfl)) (Zq rfl (QW.eql (.tmp rfl) .const) (Zn ?_)))))))
  refine J.cond (.tmp rfl) (fun c1 => absurd c1 (by simp)) (fun c1 => ?_)
  refine Zk (Zs (Zq rfl (QW.move (.tmp rfl)) (Zq rfl (QW.len_arr 0 sl26 (.tmp rfl) rfl) (Zq rfl (QW.assign (.tmp rfl)) (Zn (J.seq (Zs (Zq rfl (QW.move (.tmp rfl)) (Zq rfl (QW.move (.tmp rfl)) ?_)))))))))
  refine Zq rfl (QW.eql (.tmp rfl) (.tmp rfl)) (Zn ?_)
  refine J.cond (.tmp rfl) (fun c2 => ?_) (fun c2 => ?_)
  · skip
    obtain rfl : i = xs.length := by simp at c2; omega
    exact Zs (Zq rfl (QW.move (.tmp rfl)) (Zq rfl (QW.move (.tmp rfl)) (JL.append 0 sl26 el9 rfl (.tmp rfl) rfl (srcA_sl sl26 (.tmp rfl)) (by omega) rfl fun v25 => JL.isSlice 0 rfl fun hs1 => Zq rfl (QW.assign (.tmp rfl)) (Zn (J.ret (thenQ.r (Zr [.p] (RetEv.one rfl (REv.tmp rfl lr)) rfl ⟨_, rfl, _, rfl, hs1, by simp; rfl⟩)))))))
  have hlt : i < xs.length := by simp at c2; omega
  refine Zk (J.seq (J.seq (J.lay 0 rfl (fun a0 hv hx => absurd hlt (by rw [hx]; simp)) fun b cap sp hv hcap hsz hfl => ?_)))
  subst hv
  have hX : xs.flatten.length = xs.length * 1 := flatten_length xs hsz
  have hBl : (xs.flatten ++ sp.map AV.c).length = (cap + 1) * 1 := by rw [List.length_append, List.length_map]; exact hfl
  refine J.region_lit (Zq rfl (QW.move (.tmp rfl)) (Zq rfl (QW.move (.tmp rfl)) (Zq rfl (QW.add (.tmp rfl) (.tmp rfl) (w64n (m := xs.length + 1) rfl (by omega))) (Zq rfl (QW.move (.tmp rfl)) (Zq rfl (QW.cap_c sl26 (.tmp rfl)) (Zq rfl (QW.gtr (.tmp rfl) (.tmp rfl)) (Zn ?_)))))))
  refine J.cond (.tmp rfl) (fun c3 => ?_) (fun c3 => ?_)
  · skip
    have hgr : cap + 1 < xs.length + 1 := by simp at c3; omega
    refine Zs (Zq rfl (QW.move (.tmp rfl)) (Zq rfl (QW.move (.tmp rfl)) (Zq rfl (QW.cutH (h := i) sl26 ty9 (.tmp rfl) (.tmp rfl) rfl (by omega)) (Zq rfl (QW.move (.tmp rfl)) (Zq rfl (QW.move (.tmp rfl)) (Zq rfl (QW.add (.tmp rfl) (.tmp rfl) (w64n (m := xs.length + 1) rfl (by omega))) (Zq rfl (QW.move (.tmp rfl)) (Zq rfl (QW.sub (.tmp rfl) (.tmp rfl) (w64n (m := xs.length + 1 - i) (by omega) (by omega))) (JL.appMake 0 sl26 iu3 el9 rfl (.tmp rfl) rfl (.tmp rfl) (by omega) (by omega) (by show 0 + i * 1 ≤ _; rw [hBl]; omega) (by rw [show i + (xs.length + 1 - i) = xs.length + 1 by omega]; exact hr) (by unfold reach; omega) rfl fun b2 cap2 tl hc2 hhl htl => ?_)))))))))
    have hNl : (((xs.flatten ++ sp.map AV.c).drop 0).take (i * 1) ++ tl).length = (cap2 + 1) * 1 := by rw [List.length_append]; exact (congrArg (· + tl.length) hhl).trans htl
    have htl2 : i * 1 + tl.length = (cap2 + 1) * 1 := htl
    have hml : (((xs.flatten ++ sp.map AV.c).drop (i * 1)).take (xs.flatten.length - i * 1)).length = xs.flatten.length - i * 1 := by rw [List.length_take, List.length_drop, hBl]; omega
    refine Zq rfl (QW.assign (.tmp rfl)) (Zn (Zs (Zq rfl (QW.move (.tmp rfl)) (Zq rfl (QW.move (.tmp rfl)) (Zq rfl (QW.cutL (l := i) (off' := i * 1) sl26 ty9 (.tmp rfl) (.tmp rfl) rfl (by omega) (by omega) (by rw [if_neg (by omega)]; omega)) ?_)))))
    refine Zq rfl (QW.move (.tmp rfl)) (JL.copyN 0 sl26 ty9 (.tmp rfl) rfl (SrcN.one (.tmp rfl) rfl hy) (Nat.min_eq_left (by omega)) (by rw [hNl, hy]; omega) rfl ?_)
    refine Zn (J.seq (J.region_tailK 8 mixed (by kernel_rfl) (by kernel_rfl) (by kernel_rfl) rfl ?_))
    refine .cons [] rfl rfl rfl (.q rfl (QW.move (.tmp rfl))) ?_
    refine .cons [] rfl rfl rfl (.q rfl (QW.move (.tmp rfl))) ?_
    refine .cons [] rfl rfl rfl (.q rfl (QW.move (.tmp rfl))) ?_
    refine .cons [47, 48] rfl rfl rfl (.q rfl (QW.add (.tmp rfl) (.tmp rfl) (w64n (m := i + 1) rfl (by omega)))) ?_
    refine .cons [46, 49] rfl rfl rfl (.q rfl (QW.cutL (l := i + 1) (off' := i * 1 + 1) sl26 ty9 (.tmp rfl) (.tmp rfl) rfl (by omega) (by omega) (by rw [if_neg (by omega)]; omega))) ?_
    refine .cons [] rfl rfl rfl (.q rfl (QW.move (.tmp rfl))) ?_
    refine .cons [] rfl rfl rfl (.q rfl (QW.move (.tmp rfl))) ?_
    refine .cons [51, 52] rfl rfl rfl (.q rfl (QW.cutL (l := i) (off' := i * 1) sl26 ty9 (.tmp rfl) (.tmp rfl) rfl (by omega) (by omega) (by rw [if_neg (by omega)]; omega))) ?_
    refine .nil ?_
    refine JL.copyN 0 sl26 ty9 (.tmp rfl) rfl (SrcN.boxE (i2 := 1) (mm := xs.length - i) (q := xs.flatten.length - i * 1) (.tmp rfl) rfl (by omega) (Nat.le_refl _) (by rw [hBl]; omega)) (Nat.min_eq_left (by omega)) (by rw [splice_length (by rw [hNl, hy]; omega), hNl, hml]; omega) rfl ?_
    refine Zn (J.seq (J.fold 0 (xs.take i ++ [ys] ++ xs.drop i) rfl (v := sv b2 0 (i + (xs.length + 1 - i)) (cap2 + 1)) (by rw [ins_len hi, show i + (xs.length + 1 - i) = xs.length + 1 by omega]) (by rw [ins_len hi]; omega) (ins_sz hsz hy) (by rw [splice_length (by rw [splice_length (by rw [hNl, hy]; omega), hNl, hml]; omega), splice_length (by rw [hNl, hy]; omega), hNl]; rfl) (by rw [ins_flen hsz hy, ins_flat hsz]; exact ins_grow (X := xs.flatten) (sp := sp.map AV.c) (tl := tl) (a := i * 1) (m := 1) (by omega) hy (by omega)) rfl ?_))
    exact J.region_lit (Zq rfl (QW.move (.tmp rfl)) (Zq rfl (QW.assign (.tmp rfl)) (Zn (J.ret (thenQ.r (Zr [.p, .k] (RetEv.one rfl (REv.tmp rfl lr)) rfl ⟨_, rfl, _, rfl, rfl, rfl⟩))))))
  have hroom : xs.length + 1 ≤ cap + 1 := by simp at c3; omega
  refine Zk (Zs (Zq rfl (QW.move (.tmp rfl)) (Zq rfl (QW.move (.tmp rfl)) (Zq rfl (QW.move (.tmp rfl)) (Zq rfl (QW.add (.tmp rfl) (.tmp rfl) (w64n (m := xs.length + 1) rfl (by omega))) (Zq rfl (QW.cutH (h := xs.length + 1) sl26 ty9 (.tmp rfl) (.tmp rfl) rfl (by omega)) (Zq rfl (QW.assign (.tmp rfl)) (Zn (J.seq ?_)))))))))
  refine Zs (Zq rfl (QW.move (.tmp rfl)) (Zq rfl (QW.move (.tmp rfl)) (Zq rfl (QW.move (.tmp rfl)) (Zq rfl (QW.move (.tmp rfl)) (Zq rfl (QW.add (.tmp rfl) (.tmp rfl) (w64n (m := i + 1) rfl (by omega))) (Zq rfl (QW.cutL (l := i + 1) (off' := i * 1 + 1) sl26 ty9 (.tmp rfl) (.tmp rfl) rfl (by omega) (by omega) (by rw [if_neg (by omega)]; omega)) ?_))))))
  refine Zq rfl (QW.apart 0 sl26 ty9 overStr (.tmp rfl) (.tmp rfl) rfl (by intro h0; simp at h0; subst h0; simp at hy) (by intro h0; have := congrArg List.length h0; rw [hBl] at this; simp at this)) ?_
  refine Zq rfl (QW.not (.tmp rfl)) (Zn ?_)
  refine J.cond (.tmp rfl) (fun c4 => ?_) (fun c4 => absurd c4 (by simp))
  refine J.seq ?_
  have hml : (((xs.flatten ++ sp.map AV.c).drop (i * 1)).take (xs.flatten.length - i * 1)).length = xs.flatten.length - i * 1 := by rw [List.length_take, List.length_drop, hBl]; omega
  refine J.region_tailK 8 mixed (by kernel_rfl) (by kernel_rfl) (by kernel_rfl) rfl ?_
  refine .cons [] rfl rfl rfl (.q rfl (QW.move (.tmp rfl))) ?_
  refine .cons [] rfl rfl rfl (.q rfl (QW.move (.tmp rfl))) ?_
  refine .cons [] rfl rfl rfl (.q rfl (QW.move (.tmp rfl))) ?_
  refine .cons [70, 71] rfl rfl rfl (.q rfl (QW.add (.tmp rfl) (.tmp rfl) (w64n (m := i + 1) rfl (by omega)))) ?_
  refine .cons [69, 72] rfl rfl rfl (.q rfl (QW.cutL (l := i + 1) (off' := i * 1 + 1) sl26 ty9 (.tmp rfl) (.tmp rfl) rfl (by omega) (by omega) (by rw [if_neg (by omega)]; omega))) ?_
  refine .cons [] rfl rfl rfl (.q rfl (QW.move (.tmp rfl))) ?_
  refine .cons [] rfl rfl rfl (.q rfl (QW.move (.tmp rfl))) ?_
  refine .cons [74, 75] rfl rfl rfl (.q rfl (QW.cutL (l := i) (off' := i * 1) sl26 ty9 (.tmp rfl) (.tmp rfl) rfl (by omega) (by omega) (by rw [if_neg (by omega)]; omega))) ?_
  refine .nil ?_
  refine JL.copyN 0 sl26 ty9 (.tmp rfl) rfl (SrcN.boxE (i2 := 0) (mm := xs.length - i) (q := xs.flatten.length - i * 1) (.tmp rfl) rfl (by omega) (by omega) (by rw [hBl]; omega)) (by show min _ _ = _; omega) (by rw [hBl, hml]; omega) rfl ?_
  refine Zn (Zs (Zq rfl (QW.move (.tmp rfl)) (Zq rfl (QW.move (.tmp rfl)) (Zq rfl (QW.cutL (l := i) (off' := i * 1) sl26 ty9 (.tmp rfl) (.tmp rfl) rfl (by omega) (by omega) (by rw [if_neg (by omega)]; omega)) ?_))))
  refine Zq rfl (QW.move (.tmp rfl)) (JL.copyN 0 sl26 ty9 (.tmp rfl) rfl (SrcN.one (.tmp rfl) rfl hy) (Nat.min_eq_left (by omega)) (by rw [splice_length (by rw [hBl, hml]; omega), hBl, hy]; omega) rfl ?_)
  refine Zn (J.seq (J.fold 0 (xs.take i ++ [ys] ++ xs.drop i) rfl (v := sv b 0 (xs.length + 1) (cap + 1)) (by rw [ins_len hi]) (by rw [ins_len hi]; omega) (ins_sz hsz hy) (by rw [splice_length (by rw [splice_length (by rw [hBl, hml]; omega), hBl, hy]; omega), splice_length (by rw [hBl, hml]; omega), hBl]; rfl) (by rw [ins_flen hsz hy, ins_flat hsz]; exact ins_shift (X := xs.flatten) (sp := sp.map AV.c) (a := i * 1) (m := 1) (by omega) hy (by rw [hBl]; omega)) rfl ?_))
  exact J.region_lit (Zq rfl (QW.move (.tmp rfl)) (Zq rfl (QW.assign (.tmp rfl)) (Zn (J.ret (thenQ.r (Zr [.p] (RetEv.one rfl (REv.tmp rfl lr)) rfl ⟨_, rfl, _, rfl, rfl, rfl⟩))))))
theorem overVal : ∀ u v w, (callFunc 157 #[u, v]).run Tryz.prog w = ((Extern.SlicesOverlaps.overlaps #[27, 27] #[4] #[u, v]).run Tryz.prog w).andThen fun v w' => .ok (.value v) w' := fun u v w => run_callFunc_extern (P := Tryz.prog) Tryz.func157 (by kernel_rfl) (by kernel_rfl) (by kernel_rfl) (by kernel_rfl) _ w
theorem insVal_ok {v : Value} {xs : List (List AV)} {ys : List AV} {i : Nat} {fr clip : Bool} (hi : i ≤ xs.length) (hy : ys.length = 5) (hr : (xs.length + 1) * 80 ≤ reach) : AC Tryz.prog 151 [.arr v eV xs] [.c v, .c (.int .i64 (i : Int)), .sl fr clip eV [ys]] (RetR (CloneR eV (xs.take i ++ [ys] ++ xs.drop i))) := by
  have hr2 := hr
  unfold reach at hr2
  refine AC.of_J Tryz.func151 rfl Tryz.ntmps151 rfl fun w0 A0 => ?_
  refine Zs (Zq rfl (QW.assign .const) (Zn (Zs (Zq rfl (QW.move (.tmp rfl)) (Zq rfl (QW.move (.tmp rfl)) (JL.cutAny 0 sl27 ty29 (.tmp rfl) rfl (.tmp rfl) rfl hi rfl fun u12 => Zn (Zs (Zq rfl (QW.move (.tmp rfl)) ?_))))))))
  refine Zq rfl (QW.len_sl sl27 (.tmp rfl)) (Zq rfl (QW.assign (.tmp rfl)) (Zn (J.seq (Zs (Zq rfl (QW.move (.tmp rfl)) (Zq rfl (QW.eql (.tmp rfl) .const) (Zn ?_)))))))
  refine J.cond (.tmp rfl) (fun c1 => absurd c1 (by simp)) (fun c1 => ?_)
  refine Zk (Zs (Zq rfl (QW.move (.tmp rfl)) (Zq rfl (QW.len_arr 0 sl27 (.tmp rfl) rfl) (Zq rfl (QW.assign (.tmp rfl)) (Zn (J.seq (Zs (Zq rfl (QW.move (.tmp rfl)) (Zq rfl (QW.move (.tmp rfl)) ?_)))))))))
  refine Zq rfl (QW.eql (.tmp rfl) (.tmp rfl)) (Zn ?_)
  refine J.cond (.tmp rfl) (fun c2 => ?_) (fun c2 => ?_)
  · skip
    obtain rfl : i = xs.length := by simp at c2; omega
    exact Zs (Zq rfl (QW.move (.tmp rfl)) (Zq rfl (QW.move (.tmp rfl)) (JL.append 0 sl27 el29 rfl (.tmp rfl) rfl (srcA_sl sl27 (.tmp rfl)) (by omega) rfl fun v25 => JL.isSlice 0 rfl fun hs1 => Zq rfl (QW.assign (.tmp rfl)) (Zn (J.ret (thenQ.r (Zr [.p] (RetEv.one rfl (REv.tmp rfl lr)) rfl ⟨_, rfl, _, rfl, hs1, by simp; rfl⟩)))))))
  have hlt : i < xs.length := by simp at c2; omega
  refine Zk (J.seq (J.seq (J.lay 0 rfl (fun a0 hv hx => absurd hlt (by rw [hx]; simp)) fun b cap sp hv hcap hsz hfl => ?_)))
  subst hv
  have hX : xs.flatten.length = xs.length * 5 := flatten_length xs hsz
  have hBl : (xs.flatten ++ sp.map AV.c).length = (cap + 1) * 5 := by rw [List.length_append, List.length_map]; exact hfl
  refine J.region_lit (Zq rfl (QW.move (.tmp rfl)) (Zq rfl (QW.move (.tmp rfl)) (Zq rfl (QW.add (.tmp rfl) (.tmp rfl) (w64n (m := xs.length + 1) rfl (by omega))) (Zq rfl (QW.move (.tmp rfl)) (Zq rfl (QW.cap_c sl27 (.tmp rfl)) (Zq rfl (QW.gtr (.tmp rfl) (.tmp rfl)) (Zn ?_)))))))
  refine J.cond (.tmp rfl) (fun c3 => ?_) (fun c3 => ?_)
  · skip
    have hgr : cap + 1 < xs.length + 1 := by simp at c3; omega
    refine Zs (Zq rfl (QW.move (.tmp rfl)) (Zq rfl (QW.move (.tmp rfl)) (Zq rfl (QW.cutH (h := i) sl27 ty29 (.tmp rfl) (.tmp rfl) rfl (by omega)) (Zq rfl (QW.move (.tmp rfl)) (Zq rfl (QW.move (.tmp rfl)) (Zq rfl (QW.add (.tmp rfl) (.tmp rfl) (w64n (m := xs.length + 1) rfl (by omega))) (Zq rfl (QW.move (.tmp rfl)) (Zq rfl (QW.sub (.tmp rfl) (.tmp rfl) (w64n (m := xs.length + 1 - i) (by omega) (by omega))) (JL.appMake 0 sl27 iu3 el29 rfl (.tmp rfl) rfl (.tmp rfl) (by omega) (by omega) (by show 0 + i * 5 ≤ _; rw [hBl]; omega) (by rw [show i + (xs.length + 1 - i) = xs.length + 1 by omega]; exact hr) (by unfold reach; omega) rfl fun b2 cap2 tl hc2 hhl htl => ?_)))))))))
    have hNl : (((xs.flatten ++ sp.map AV.c).drop 0).take (i * 5) ++ tl).length = (cap2 + 1) * 5 := by rw [List.length_append]; exact (congrArg (· + tl.length) hhl).trans htl
    have htl2 : i * 5 + tl.length = (cap2 + 1) * 5 := htl
    have hml : (((xs.flatten ++ sp.map AV.c).drop (i * 5)).take (xs.flatten.length - i * 5)).length = xs.flatten.length - i * 5 := by rw [List.length_take, List.length_drop, hBl]; omega
    refine Zq rfl (QW.assign (.tmp rfl)) (Zn (Zs (Zq rfl (QW.move (.tmp rfl)) (Zq rfl (QW.move (.tmp rfl)) (Zq rfl (QW.cutL (l := i) (off' := i * 5) sl27 ty29 (.tmp rfl) (.tmp rfl) rfl (by omega) (by omega) (by rw [if_neg (by omega)]; omega)) ?_)))))
    refine Zq rfl (QW.move (.tmp rfl)) (JL.copyN 0 sl27 ty29 (.tmp rfl) rfl (SrcN.one (.tmp rfl) rfl hy) (Nat.min_eq_left (by omega)) (by rw [hNl, hy]; omega) rfl ?_)
    refine Zn (J.seq (J.region_tailK 8 mixed (by kernel_rfl) (by kernel_rfl) (by kernel_rfl) rfl ?_))
    refine .cons [] rfl rfl rfl (.q rfl (QW.move (.tmp rfl))) ?_
    refine .cons [] rfl rfl rfl (.q rfl (QW.move (.tmp rfl))) ?_
    refine .cons [] rfl rfl rfl (.q rfl (QW.move (.tmp rfl))) ?_
    refine .cons [47, 48] rfl rfl rfl (.q rfl (QW.add (.tmp rfl) (.tmp rfl) (w64n (m := i + 1) rfl (by omega)))) ?_
    refine .cons [46, 49] rfl rfl rfl (.q rfl (QW.cutL (l := i + 1) (off' := i * 5 + 5) sl27 ty29 (.tmp rfl) (.tmp rfl) rfl (by omega) (by omega) (by rw [if_neg (by omega)]; omega))) ?_
    refine .cons [] rfl rfl rfl (.q rfl (QW.move (.tmp rfl))) ?_
    refine .cons [] rfl rfl rfl (.q rfl (QW.move (.tmp rfl))) ?_
    refine .cons [51, 52] rfl rfl rfl (.q rfl (QW.cutL (l := i) (off' := i * 5) sl27 ty29 (.tmp rfl) (.tmp rfl) rfl (by omega) (by omega) (by rw [if_neg (by omega)]; omega))) ?_
    refine .nil ?_
    refine JL.copyN 0 sl27 ty29 (.tmp rfl) rfl (SrcN.boxE (i2 := 1) (mm := xs.length - i) (q := xs.flatten.length - i * 5) (.tmp rfl) rfl (by omega) (Nat.le_refl _) (by rw [hBl]; omega)) (Nat.min_eq_left (by omega)) (by rw [splice_length (by rw [hNl, hy]; omega), hNl, hml]; omega) rfl ?_
    refine Zn (J.seq (J.fold 0 (xs.take i ++ [ys] ++ xs.drop i) rfl (v := sv b2 0 (i + (xs.length + 1 - i)) (cap2 + 1)) (by rw [ins_len hi, show i + (xs.length + 1 - i) = xs.length + 1 by omega]) (by rw [ins_len hi]; omega) (ins_sz hsz hy) (by rw [splice_length (by rw [splice_length (by rw [hNl, hy]; omega), hNl, hml]; omega), splice_length (by rw [hNl, hy]; omega), hNl]; rfl) (by rw [ins_flen hsz hy, ins_flat hsz]; exact ins_grow (X := xs.flatten) (sp := sp.map AV.c) (tl := tl) (a := i * 5) (m := 5) (by omega) hy (by omega)) rfl ?_))
    exact J.region_lit (Zq rfl (QW.move (.tmp rfl)) (Zq rfl (QW.assign (.tmp rfl)) (Zn (J.ret (thenQ.r (Zr [.p, .k] (RetEv.one rfl (REv.tmp rfl lr)) rfl ⟨_, rfl, _, rfl, rfl, rfl⟩))))))
  have hroom : xs.length + 1 ≤ cap + 1 := by simp at c3; omega
  refine Zk (Zs (Zq rfl (QW.move (.tmp rfl)) (Zq rfl (QW.move (.tmp rfl)) (Zq rfl (QW.move (.tmp rfl)) (Zq rfl (QW.add (.tmp rfl) (.tmp rfl) (w64n (m := xs.length + 1) rfl (by omega))) (Zq rfl (QW.cutH (h := xs.length + 1) sl27 ty29 (.tmp rfl) (.tmp rfl) rfl (by omega)) (Zq rfl (QW.assign (.tmp rfl)) (Zn (J.seq ?_)))))))))
  refine Zs (Zq rfl (QW.move (.tmp rfl)) (Zq rfl (QW.move (.tmp rfl)) (Zq rfl (QW.move (.tmp rfl)) (Zq rfl (QW.move (.tmp rfl)) (Zq rfl (QW.add (.tmp rfl) (.tmp rfl) (w64n (m := i + 1) rfl (by omega))) (Zq rfl (QW.cutL (l := i + 1) (off' := i * 5 + 5) sl27 ty29 (.tmp rfl) (.tmp rfl) rfl (by omega) (by omega) (by rw [if_neg (by omega)]; omega)) ?_))))))
  refine Zq rfl (QW.apart 0 sl27 ty29 overVal (.tmp rfl) (.tmp rfl) rfl (by intro h0; simp at h0; subst h0; simp at hy) (by intro h0; have := congrArg List.length h0; rw [hBl] at this; simp at this)) ?_
  refine Zq rfl (QW.not (.tmp rfl)) (Zn ?_)
  refine J.cond (.tmp rfl) (fun c4 => ?_) (fun c4 => absurd c4 (by simp))
  refine J.seq ?_
  have hml : (((xs.flatten ++ sp.map AV.c).drop (i * 5)).take (xs.flatten.length - i * 5)).length = xs.flatten.length - i * 5 := by rw [List.length_take, List.length_drop, hBl]; omega
  refine J.region_tailK 8 mixed (by kernel_rfl) (by kernel_rfl) (by kernel_rfl) rfl ?_
  refine .cons [] rfl rfl rfl (.q rfl (QW.move (.tmp rfl))) ?_
  refine .cons [] rfl rfl rfl (.q rfl (QW.move (.tmp rfl))) ?_
  refine .cons [] rfl rfl rfl (.q rfl (QW.move (.tmp rfl))) ?_
  refine .cons [70, 71] rfl rfl rfl (.q rfl (QW.add (.tmp rfl) (.tmp rfl) (w64n (m := i + 1) rfl (by omega)))) ?_
  refine .cons [69, 72] rfl rfl rfl (.q rfl (QW.cutL (l := i + 1) (off' := i * 5 + 5) sl27 ty29 (.tmp rfl) (.tmp rfl) rfl (by omega) (by omega) (by rw [if_neg (by omega)]; omega))) ?_
  refine .cons [] rfl rfl rfl (.q rfl (QW.move (.tmp rfl))) ?_
  refine .cons [] rfl rfl rfl (.q rfl (QW.move (.tmp rfl))) ?_
  refine .cons [74, 75] rfl rfl rfl (.q rfl (QW.cutL (l := i) (off' := i * 5) sl27 ty29 (.tmp rfl) (.tmp rfl) rfl (by omega) (by omega) (by rw [if_neg (by omega)]; omega))) ?_
  refine .nil ?_
  refine JL.copyN 0 sl27 ty29 (.tmp rfl) rfl (SrcN.boxE (i2 := 0) (mm := xs.length - i) (q := xs.flatten.length - i * 5) (.tmp rfl) rfl (by omega) (by omega) (by rw [hBl]; omega)) (by show min _ _ = _; omega) (by rw [hBl, hml]; omega) rfl ?_
  refine Zn (Zs (Zq rfl (QW.move (.tmp rfl)) (Zq rfl (QW.move (.tmp rfl)) (Zq rfl (QW.cutL (l := i) (off' := i * 5) sl27 ty29 (.tmp rfl) (.tmp rfl) rfl (by omega) (by omega) (by rw [if_neg (by omega)]; omega)) ?_))))
  refine Zq rfl (QW.move (.tmp rfl)) (JL.copyN 0 sl27 ty29 (.tmp rfl) rfl (SrcN.one (.tmp rfl) rfl hy) (Nat.min_eq_left (by omega)) (by rw [splice_length (by rw [hBl, hml]; omega), hBl, hy]; omega) rfl ?_)
  refine Zn (J.seq (J.fold 0 (xs.take i ++ [ys] ++ xs.drop i) rfl (v := sv b 0 (xs.length + 1) (cap + 1)) (by rw [ins_len hi]) (by rw [ins_len hi]; omega) (ins_sz hsz hy) (by rw [splice_length (by rw [splice_length (by rw [hBl, hml]; omega), hBl, hy]; omega), splice_length (by rw [hBl, hml]; omega), hBl]; rfl) (by rw [ins_flen hsz hy, ins_flat hsz]; exact ins_shift (X := xs.flatten) (sp := sp.map AV.c) (a := i * 5) (m := 5) (by omega) hy (by rw [hBl]; omega)) rfl ?_))
  exact J.region_lit (Zq rfl (QW.move (.tmp rfl)) (Zq rfl (QW.assign (.tmp rfl)) (Zn (J.ret (thenQ.r (Zr [.p] (RetEv.one rfl (REv.tmp rfl lr)) rfl ⟨_, rfl, _, rfl, rfl, rfl⟩))))))
end Go.Proofs.YtjhonjdhanlbkaaGreat.J

/- Walks: a new item in an owned value. -/
namespace Go.Proofs.YtjhonjdhanlbkaaGreat.J
open Go Go.RowKit
set_option maxRecDepth 10000
set_option maxHeartbeats 4000000
theorem fnd_cases {v : V} {s : StT} {i : Nat} {e : Int} (h : v.fnd s = (i, e)) : e = 0 ∨ (e = 71 ∧ s.isKey = true ∧ v.kind = 5 ∧ i ≤ v.keys.length) ∨ (e = 82 ∧ s.isKey = false ∧ v.kind = 4 ∧ i = 0) ∨ (e = 81 ∧ i = 0) := by
  unfold V.fnd at h
  split at h
  · rename_i h1
    split at h
    · rename_i h2
      split at h
      · exact .inl (congrArg Prod.snd h).symm
      · cases h; exact .inr (.inl ⟨rfl, h1, h2, low_le _ _⟩)
    · cases h; exact .inr (.inr (.inr ⟨rfl, rfl⟩))
  · rename_i h1
    split at h
    · rename_i h2
      split at h
      · cases h; exact .inr (.inr (.inl ⟨rfl, by simpa using h1, h2, rfl⟩))
      · exact .inl (congrArg Prod.snd h).symm
    · cases h; exact .inr (.inr (.inr ⟨rfl, rfl⟩))
def V.stp (u : V) (s : StT) (last : Bool) : V × Nat × Int :=
  if (u.fnd s).2 = 0 then (u, (u.fnd s).1, 0) else if last = true then (if (u.grw s (u.fnd s).1 (u.fnd s).2).2 = 0 then (u.ins s (u.grw s (u.fnd s).1 (u.fnd s).2).1 .nil, (u.grw s (u.fnd s).1 (u.fnd s).2).1, 0) else (u, (u.grw s (u.fnd s).1 (u.fnd s).2).1, (u.grw s (u.fnd s).1 (u.fnd s).2).2))
  else (u, (u.fnd s).1, (u.fnd s).2)
def GrowR (z : At) (s : StT) : AV → List Own → Prop := fun x o => ∃ kv iv ok oi, x = .tup [.c (.int .i64 ((z.u.stp s true).2.1 : Int)), .c (.int .i64 (z.u.stp s true).2.2)] ∧ o = [.box z.b (holeC z (z.u.stp s true).1 kv iv), ok, oi] ∧ VTr (z.u.stp s true).1 kv iv ok oi
theorem GrowR.no {z : At} {s : StT} {i m : Nat} {e f : Int} {ok oi : Own} {o : List Own} (h : z.u.fnd s = (i, e)) (he : e ≠ 0) (hg : z.u.grw s i e = (m, f)) (hf : f ≠ 0) (ho : o = [.box z.b (holeC z z.u z.kv z.iv), ok, oi]) (hV : VTr z.u z.kv z.iv ok oi) : GrowR z s (.tup [.c (.int .i64 (m : Int)), .c (.int .i64 f)]) o := by
  have : z.u.stp s true = (z.u, m, f) := by simp [V.stp, h, he, hg, hf]
  exact ⟨z.kv, z.iv, ok, oi, by rw [this], by rw [this]; exact ho, by rw [this]; exact hV⟩
theorem GrowR.yes {z : At} {s : StT} {i m : Nat} {e : Int} {kv iv : Value} {ok oi : Own} {o : List Own} (h : z.u.fnd s = (i, e)) (he : e ≠ 0) (hg : z.u.grw s i e = (m, 0)) (ho : o = [.box z.b (holeC z z.u kv iv), ok, oi]) (hV : VTr (z.u.ins s m .nil) kv iv ok oi) : GrowR z s (.tup [.c (.int .i64 (m : Int)), .c (.int .i64 0)]) o := by
  have : z.u.stp s true = (z.u.ins s m .nil, m, 0) := by simp [V.stp, h, he, hg]
  exact ⟨kv, iv, ok, oi, by rw [this], by rw [this]; exact ho, by rw [this]; exact hV⟩
theorem hole_setK {z : At} {u : V} {kv kv2 iv : Value} (h : z.pre.length = z.off) : splice (holeC z u kv iv) (z.off + 3) [.c kv2] = holeC z u kv2 iv := (hole_set h (by decide)).trans (by rw [holeC_eq]; rfl)
theorem hole_setI {z : At} {u : V} {kv iv iv2 : Value} (h : z.pre.length = z.off) : splice (holeC z u kv iv) (z.off + 4) [.c iv2] = holeC z u kv iv2 := (hole_set h (by decide)).trans (by rw [holeC_eq]; rfl)
theorem strs_trL : ∀ {ks : List Str} {us : List Value} {o : Own}, TrL (keysAV ks).flatten us o → us = ks.map str
  | [], us, o, h => by cases h; rfl
  | s :: ks, us, o, h => by
    simp only [keysAV, List.map_cons, List.flatten_cons, List.singleton_append] at h
    cases h with
    | cons h1 h2 ho => rw [h1.c_inv, strs_trL h2]; rfl
theorem one_cells : ∀ {cs : List (List AV)} {ks : List Str}, (∀ x ∈ cs, x.length = 1) → cs.flatten = (ks.map str).map AV.c → cs = keysAV ks
  | [], [], _, _ => rfl
  | [], _ :: _, _, h => by simp at h
  | c :: cs, ks, h1, h => by
    obtain ⟨x, rfl⟩ := List.length_eq_one_iff.1 (h1 c (by simp))
    cases ks with
    | nil => simp at h
    | cons k ks =>
      simp only [List.flatten_cons, List.singleton_append, List.map_cons, List.cons.injEq] at h
      rw [one_cells (fun x hx => h1 x (by simp [hx])) h.2, h.1]
      rfl
theorem keys_cs {cs : List (List AV)} {ks : List Str} {us : List Value} {o : Own} (h1 : cs.flatten = us.map AV.c) (h3 : ∀ x ∈ cs, x.length = 1) (h : TrL (keysAV ks).flatten us o) : cs = keysAV ks := by
  rw [strs_trL h] at h1
  exact one_cells h3 h1
def nilC : List AV := [.c (.int .i64 0), .c (.int .u64 0), .c (str []), .c (.slice none 0 0), .c (.slice none 0 0)]
theorem OwnEq.noArr (e : ETy) : OwnEq (.grp [.arr (.slice none 0 0) e [], .grp []]) (.grp []) := ⟨fun b => by simp [Own.fp, Own.fpl, arrFp], fun w A => by
  simp only [ok_grp, List.forall_mem_cons, List.not_mem_nil, false_implies, implies_true, and_true, iff_true]
  exact .inl ⟨_, rfl, rfl⟩⟩
theorem nil_slTr (e : ETy) : Tr (.sl true false e []) (.slice none 0 0) (.grp []) := .sl (us := []) (o := .grp []) rfl rfl (fun _ h => by cases h) (fun _ h => by cases h) rfl (by simp) (.nil (.refl _)) (OwnEq.noArr e)
theorem nil_VTr : VTr .nil (.slice none 0 0) (.slice none 0 0) (.grp []) (.grp []) := ⟨rfl, rfl, nil_slTr eStr, nil_slTr eV⟩
theorem ins_tr {is : List V} {cs : List (List AV)} {us : List Value} {o : Own} {m : Nat} {v : Value} (hm : m ≤ is.length) (hl : cs.length = is.length) (h3 : ∀ x ∈ cs, x.length = 5) (hf : cs.flatten = us.map AV.c) (h1 : us.all (·.oneCell') = true) (h : TrL (V.css true is).flatten us o) (h6 : (is.length + 1) * 80 ≤ reach) :
    Tr (.sl true false eV (V.css true (is.take m ++ [V.nil] ++ is.drop m))) v (.grp [.arr v eV (cs.take m ++ [nilC] ++ cs.drop m), o]) := by
  have hsp : (V.css true is).flatten = (V.css true (is.take m)).flatten ++ (V.css true (is.drop m)).flatten := by
    rw [← List.flatten_append, ← V.css_append, List.take_append_drop]
  rw [hsp] at h
  obtain ⟨u1, u2, o1, o2, rfl, g1, g2, g3⟩ := h.split
  rw [List.all_append, Bool.and_eq_true] at h1
  have hlen : (cs.take m).flatten.length = u1.length := by
    rw [← g1.length, flatten_length (sz := 5) _ (fun x hx => h3 x (List.mem_of_mem_take hx)), flatten_length (sz := 5) _ (V.css_sz true _), V.css_length, List.length_take, List.length_take, hl]
  have hf2 : (cs.take m).flatten ++ (cs.drop m).flatten = u1.map AV.c ++ u2.map AV.c := by
    rw [← List.flatten_append, List.take_append_drop, hf, List.map_append]
  obtain ⟨k1, k2⟩ := List.append_inj hf2 (by simpa using hlen)
  have htl : TrL (V.css true (is.take m ++ [V.nil] ++ is.drop m)).flatten (u1 ++ V.vals .nil (.slice none 0 0) (.slice none 0 0) ++ u2) o := by
    rw [V.css_append, V.css_append, List.flatten_append, List.flatten_append]
    have hn : (V.css true [V.nil]).flatten = V.nil.cs true := by simp [V.css]
    rw [hn]
    refine (g1.append nil_VTr.trL (o'' := o1) ?_).append g2 g3
    refine (OwnEq.grp_perm (List.Perm.swap _ _ _)).trans (OwnEq.trans (.cons ?_ (.refl _)) (OwnEq.drops _))
    exact (OwnEq.nest [] [.grp []]).trans (OwnEq.one _)
  refine items_tr (us := u1 ++ V.vals .nil (.slice none 0 0) (.slice none 0 0) ++ u2) ?_ ?_ ?_ ?_ ?_ htl
  · rw [List.flatten_append, List.flatten_append, k1, k2, List.map_append, List.map_append]
    rfl
  · simp only [List.length_append, List.length_take, List.length_drop, List.length_singleton]; omega
  · intro x hx
    simp only [List.mem_append, List.mem_singleton] at hx
    rcases hx with (hx | rfl) | hx
    · exact h3 x (List.mem_of_mem_take hx)
    · rfl
    · exact h3 x (List.mem_of_mem_drop hx)
  · rw [List.all_append, List.all_append, h1.1, h1.2, nil_VTr.ones]; rfl
  · simp only [List.length_append, List.length_take, List.length_drop, List.length_singleton]; unfold reach at h6 ⊢; omega
theorem keysAV_ins (ks : List Str) (s : Str) (m : Nat) : (keysAV ks).take m ++ [[.c (str s)]] ++ (keysAV ks).drop m = keysAV (ks.take m ++ [s] ++ ks.drop m) := by simp [keysAV, List.map_take, List.map_drop]
theorem grow_ok {z : At} {s : StT} {zs : List AV} {i : Nat} {e : Int} (hs : Sc s zs) (ho : z.pre.length = z.off) (hV : VTr z.u z.kv z.iv z.ok z.oi) (hp : partOk z.u = true) (hw : z.u.wf) (hsw : s.wf) (hie : z.u.fnd s = (i, e)) (he0 : e ≠ 0) : AC Tryz.prog 134 [.box z.b (holeC z z.u z.kv z.iv), z.ok, z.oi] [.c (.pointer (some ⟨z.b, z.off, none⟩)), .agg zs, .c (.int .i64 (i : Int)), .c (.int .i64 e)] (RetR (GrowR z s)) := by
  subst hs
  obtain ⟨l1, l2⟩ := partOk_len hp
  have hcs := (fnd_cases hie).resolve_left he0
  obtain ⟨ck, uk, o1, p1, p2, p3, p4, p5, p6⟩ := hV.ks.inv
  obtain ⟨ci, ui, o2, q1, q2, q3, q4, q5, q6⟩ := hV.is.inv
  obtain rfl := keys_cs p1 p3 p5
  rw [V.css_length] at q2
  have hkr : z.u.keys.length * 16 ≤ reach := by unfold reach; omega
  have hir : z.u.items.length * 80 ≤ reach := by unfold reach; omega
  have hV2 : VTr z.u z.kv z.iv (.arr z.kv eStr (keysAV z.u.keys)) (.grp [.arr z.iv eV ci, o2]) := ⟨hV.k1, hV.i1, keys_tr hkr, items_tr q1 q2 q3 q4 hir q5⟩
  refine AC.of_J Tryz.func134 rfl Tryz.ntmps134 rfl fun w0 A0 => ?_
  refine J.seq (J.reown (Reown.cons (Reown.spoil p6 q6)) (J.region_lit (JL.box_agg (.tmp rfl) rfl fun b5 => Zq rfl (QW.assign .const) (Zq rfl (QW.assign .const) (Zn (J.cutK (ι := Nat) [0, 5] (fun m => [(2, .c (.int .i64 (m : Int)))]) (fun m oo => oo) (fun m => z.u.grw s i e = (if 32 ≤ z.u.items.length then (0, 3) else (m, 0)) ∧ m ≤ z.u.items.length ∧ (s.isKey = true → m ≤ z.u.keys.length)) ?_ ?_))))))
  · skip
    refine J.block (Zs (Zq rfl (QW.move (.tmp rfl)) (Zq rfl (QW.eql (.tmp rfl) .const) (Zq rfl (QW.move (.tmp rfl)) (Zg rfl (fun hg => (QW.field_ptr fo120_1 (.tmp rfl) rfl)) (Zg rfl (fun hg => (QW.load_box1 0 ty9 (.when rfl hg) rfl rfl)) (Zg rfl (fun hg => (QW.call gofn114 (.cons (.when rfl hg) .nil) (key_ok _))) (Zg rfl (fun hg => (QW.not (.when rfl hg))) (Zq rfl (QW.pick_and (.tmp rfl) (.tmp rfl)) ?_)))))))))
    refine Zq rfl (QW.assign (.tmp rfl)) (Zn ?_)
    refine J.cond (.tmp rfl) (fun c1 => ?_) (fun c1 => ?_)
    · skip
      have ht1 : e = 71 ∧ keyOk s.key = false := by simpa using c1
      exact J.seq (J.reown (Reown.cons (Reown.cons (Reown.cons (Reown.grp2 _ _ _)))) (J.region_lit (Zq rfl (QW.assign .const) (Zq rfl (QW.assign .const) (Zn (J.ret (blkQ.r (thenQ.r (Zr [.k, .p, .p, .p] (RetEv.two rfl (REv.tmp rfl lr) (REv.tmp rfl lr)) rfl ⟨_, rfl, GrowR.no (m := 0) (f := 31) hie he0 (by unfold V.grw; rw [if_pos ht1]) (by decide) rfl hV2⟩)))))))))
    have hf1 : ¬ (e = 71 ∧ keyOk s.key = false) := by intro hh; simp [hh.1, hh.2] at c1
    refine J.seq (J.region_tailK 10 mixed (by kernel_rfl) (by kernel_rfl) (by kernel_rfl) rfl ?_)
    refine .cons [] rfl rfl rfl (.q rfl (QW.move (.tmp rfl))) ?_
    refine .cons [20] rfl rfl rfl (.q rfl (QW.eql (.tmp rfl) .const)) ?_
    refine .cons [21] rfl rfl rfl (.q rfl (QW.move (.tmp rfl))) ?_
    refine .cons [22] rfl rfl rfl (.g rfl rfl rfl (fun hg => (QW.field_ptr fo120_2 (.tmp rfl) rfl))) ?_
    refine .cons [23, 22] rfl rfl rfl (.g rfl rfl rfl (fun hg => (QW.load_box1 0 ty3 (.when rfl hg) rfl rfl))) ?_
    refine .cons [22] rfl rfl rfl (.g rfl rfl rfl (fun hg => (QW.move (.tmp rfl)))) ?_
    refine .cons [25, 22] rfl rfl rfl (.g rfl rfl rfl (fun hg => (QW.nil_ptr (.when rfl hg)))) ?_
    refine .cons [26, 22] rfl rfl rfl (.g rfl rfl rfl (fun hg => (QW.field_ptr fo29_4 (.when rfl hg) rfl))) ?_
    refine .cons [27, 22] rfl rfl rfl (.g rfl rfl rfl (fun hg => (QW.load_box1 1 ty27 (.when rfl hg) rfl ((hole_at ho 4 (by decide)).trans rfl)))) ?_
    refine .cons [28, 22] rfl rfl rfl (.g rfl rfl rfl (fun hg => (QW.len_arr 3 sl27 (.when rfl hg) rfl))) ?_
    refine .nil ?_
    refine Zg rfl (fun hg => (QW.eql (.when rfl hg) (.when rfl hg))) (Zq rfl (QW.pick_and (.tmp rfl) (.tmp rfl)) (Zq rfl (QW.assign (.tmp rfl)) (Zn ?_)))
    refine J.cond (.tmp rfl) (fun c2 => ?_) (fun c2 => ?_)
    · skip
      have ht2 : e = 82 ∧ s.index = (z.u.items.length : Int) := by simpa [q2] using c2
      refine J.region_lit (Zq rfl (QW.field_ptr fo120_2 (.tmp rfl) rfl) (Zq rfl (QW.load_box1 0 ty3 (.tmp rfl) rfl rfl) (Zq rfl (QW.assign (.tmp rfl)) (JL.nil (blkQ.n (thenQ.n ?_))))))
      exact ⟨z.u.items.length, ⟨by unfold V.grw; rw [if_neg hf1, if_pos ht2], Nat.le_refl _, fun hk => absurd hk (by rcases hcs with h | h | h; (exact absurd (h.1.symm.trans ht2.1) (by decide)); (rw [h.2.1]; decide); (exact absurd (h.1.symm.trans ht2.1) (by decide)))⟩, Wk.re (.cons rfl (Le.intE ht2.2) (.cons rfl lr (.cons rfl lr .nil))) (Reown.refl _) (fun _ h => by first | exact h | simp [h])⟩
    have hf2 : ¬ (e = 82 ∧ s.index = (z.u.items.length : Int)) := by intro hh; simp [hh.1, hh.2, q2] at c2
    refine Zs (Zq rfl (QW.move (.tmp rfl)) (Zq rfl (QW.neq (.tmp rfl) .const) (Zq rfl (QW.assign (.tmp rfl)) (Zn ?_))))
    refine J.cond (.tmp rfl) (fun c3 => ?_) (fun c3 => ?_)
    · skip
      have ht3 : e ≠ 71 := by simpa using c3
      exact J.seq (J.reown (Reown.cons (Reown.cons (Reown.cons (Reown.grp2 _ _ _)))) (J.region_lit (Zq rfl (QW.move (.tmp rfl)) (Zq rfl (QW.assign .const) (Zq rfl (QW.assign (.tmp rfl)) (Zn (J.ret (blkQ.r (thenQ.r (Zr [.k, .p, .p, .p] (RetEv.two rfl (REv.tmp rfl lr) (REv.tmp rfl lr)) rfl ⟨_, rfl, GrowR.no (m := 0) (f := e) hie he0 (by unfold V.grw; rw [if_neg hf1, if_neg hf2, if_pos ht3]) (by assumption) rfl hV2⟩))))))))))
    have h71 : e = 71 := by simpa using c3
    have h5 : s.isKey = true ∧ z.u.kind = 5 ∧ i ≤ z.u.keys.length := by
      rcases hcs with h | h | h
      · exact h.2
      · exact absurd (h.1.symm.trans h71) (by decide)
      · exact absurd (h.1.symm.trans h71) (by decide)
    have hkl := (partOk_rec hp h5.2.1).1
    refine J.skip (blkQ.n (thenQ.n ?_))
    exact ⟨i, ⟨by unfold V.grw; rw [if_neg hf1, if_neg hf2, if_neg (by simp [h71])], by omega, fun _ => h5.2.2⟩, Wk.re (.cons rfl lr (.cons rfl lr (.cons rfl lr .nil))) (Reown.refl _) (fun _ h => by first | exact h | simp [h])⟩
  · intro m ⟨hgm, hmi, hmk⟩
    refine J.conv (by (try simp only [nl, stepsO, valO, nthO, curO, mrg, AV.cellsOf, splice_zero, splice_succ, Nat.reduceAdd]); rfl) ?_
    refine J.seq (Zs (Zq rfl (QW.move (.tmp rfl)) (Zq rfl (QW.nil_ptr (.tmp rfl)) (Zq rfl (QW.field_ptr fo29_4 (.tmp rfl) rfl) (Zq rfl (QW.load_box1 1 ty27 (.tmp rfl) rfl ((hole_at ho 4 (by decide)).trans rfl)) ?_)))))
    refine Zq rfl (QW.len_arr 3 sl27 (.tmp rfl) rfl) (Zq rfl (QW.geq (.tmp rfl) .const) (Zn ?_))
    refine J.cond (.tmp rfl) (fun c1 => ?_) (fun c1 => ?_)
    · skip
      have h32 : 32 ≤ z.u.items.length := by (simp [q2] at c1; omega)
      exact J.seq (J.reown (Reown.cons (Reown.cons (Reown.cons (Reown.grp2 _ _ _)))) (J.region_lit (Zq rfl (QW.assign .const) (Zq rfl (QW.assign .const) (Zn (J.ret (thenQ.r (Zr [.k, .p, .p, .p] (RetEv.two rfl (REv.tmp rfl lr) (REv.tmp rfl lr)) rfl ⟨_, rfl, GrowR.no (m := 0) (f := 3) hie he0 (by rw [hgm, if_pos h32]) (by decide) rfl hV2⟩))))))))
    have h32 : ¬ 32 ≤ z.u.items.length := by (simp [q2] at c1; omega)
    refine Zk (J.cutK (ι := Value × List Str) [0, 2] (fun ⟨kv2, ks2⟩ => []) (fun ⟨kv2, ks2⟩ oo => List.set (List.set oo 1 (.box z.b (holeC z z.u kv2 z.iv))) 2 (.arr kv2 eStr (keysAV ks2))) (fun ⟨kv2, ks2⟩ => kv2.oneCell' = true ∧ ks2 = (if s.isKey = true then z.u.keys.take m ++ [s.key] ++ z.u.keys.drop m else z.u.keys)) ?_ ?_)
    · skip
      refine Zs (Zq rfl (QW.field_ptr fo120_0 (.tmp rfl) rfl) (Zq rfl (QW.load_box1 0 ty4 (.tmp rfl) rfl rfl) (Zn ?_)))
      refine J.cond (.tmp rfl) (fun c2 => ?_) (fun c2 => ?_)
      · skip
        have hK : s.isKey = true := c2
        refine J.region_outK 10 1 (fun os_ ow_ x_ o_ => match os_ with | [] => (∃ o2_, (CloneR eStr ((keysAV z.u.keys).take m ++ [[.c (str s.key)]] ++ (keysAV z.u.keys).drop m)) x_ o2_ ∧ o_ = mrg [.k, .k, .p] o2_ ow_) | _ => False) mixed (by kernel_rfl) (by kernel_rfl) (by kernel_rfl) rfl ?_
        refine OutK.quiet [] rfl rfl rfl (fun qs_ qv_ ql_ => (.q rfl (QW.move (.tmp rfl)))) ?_
        refine OutK.quiet [] rfl rfl rfl (fun qs_ qv_ ql_ => (.q rfl (QW.move (.tmp rfl)))) ?_
        refine OutK.quiet [47] rfl rfl rfl (fun qs_ qv_ ql_ => (.q rfl (QW.nil_ptr (.tmp rfl)))) ?_
        refine OutK.quiet [48] rfl rfl rfl (fun qs_ qv_ ql_ => (.q rfl (QW.field_ptr fo29_3 (.tmp rfl) rfl))) ?_
        refine OutK.quiet [49] rfl rfl rfl (fun qs_ qv_ ql_ => by
            rcases qs_ with _ | ⟨⟨y0, p0⟩, qs_⟩
            · skip
              exact (.q rfl (QW.load_box1 1 ty26 (.tmp rfl) rfl ((hole_at ho 3 (by decide)).trans rfl)))
            rcases qs_ with _ | ⟨⟨y1, p1⟩, qs_⟩
            · skip
              obtain ⟨hr0, _⟩ := qv_
              obtain ⟨o55, ⟨v55, rfl, hs55, rfl⟩, rfl⟩ := hr0
              exact (.q rfl (QW.load_box1 1 ty26 (.tmp rfl) rfl ((hole_at ho 3 (by decide)).trans rfl)))
            exact absurd ql_ (by simp)) ?_
        refine OutK.quiet [] rfl rfl rfl (fun qs_ qv_ ql_ => (.q rfl (QW.move (.tmp rfl)))) ?_
        refine OutK.quiet [] rfl rfl rfl (fun qs_ qv_ ql_ => (.q rfl (QW.field_ptr fo120_1 (.tmp rfl) rfl))) ?_
        refine OutK.quiet [52] rfl rfl rfl (fun qs_ qv_ ql_ => by
            rcases qs_ with _ | ⟨⟨y0, p0⟩, qs_⟩
            · skip
              exact (.q rfl (QW.load_box1 0 ty9 (.tmp rfl) rfl rfl))
            rcases qs_ with _ | ⟨⟨y1, p1⟩, qs_⟩
            · skip
              obtain ⟨hr0, _⟩ := qv_
              obtain ⟨o55, ⟨v55, rfl, hs55, rfl⟩, rfl⟩ := hr0
              exact (.q rfl (QW.load_box1 0 ty9 (.tmp rfl) rfl rfl))
            exact absurd ql_ (by simp)) ?_
        refine OutK.quiet [53] rfl rfl rfl (fun qs_ qv_ ql_ => (.q rfl (QW.buildSlice (idx := [0]) (xs := [[.c (str s.key)]]) sl26 el9 z9 rfl (.cons (.tmp rfl) .nil) rfl rfl rfl rfl rfl rfl rfl rfl rfl))) ?_
        refine OutK.loud [50, 51, 54] rfl rfl rfl rfl rfl (fun qs_ qv_ ql_ => by
            obtain rfl : qs_ = [] := List.length_eq_zero_iff.1 ql_
            exact LStepR.callRF (d := 55) [.k, .k, .p] gofn150 Lent.nil (fun _ => (.cons (.tmp rfl) (.cons (.tmp rfl) (.cons (.tmp rfl) .nil)))) (insStr_ok (xs := keysAV z.u.keys) (i := m) (by rw [keysAV_length]; exact hmk hK) rfl (by rw [keysAV_length]; unfold reach; omega)) (.inl rfl)) ?_
        refine .nil fun qs_ qv_ ql_ => ?_
        obtain ⟨⟨y0, p0⟩, qs_, rfl⟩ : ∃ p t, qs_ = p :: t := by (cases qs_ with | nil => simp at ql_ | cons p t => exact ⟨p, t, rfl⟩)
        obtain rfl : qs_ = [] := List.length_eq_zero_iff.1 (by simpa using ql_)
        obtain ⟨hr0, _⟩ := qv_
        obtain ⟨o55, ⟨v55, rfl, hs55, rfl⟩, rfl⟩ := hr0
        refine JL.conv (by (try simp only [nl, stepsO, valO, nthO, curO, mrg, AV.cellsOf, splice_zero, splice_succ, Nat.reduceAdd]); rfl) ?_
        refine Zq rfl (QW.nil_ptr (.tmp rfl)) (Zq rfl (QW.field_ptr fo29_3 (.tmp rfl) rfl) (JL.store_box 1 ty26 (.tmp rfl) rfl (.tmp rfl) (by assumption) rfl (by rw [hole_len _ _ _ _ ho]; exact Nat.ble_eq_true_of_le (by omega)) (hole_setK ho) rfl ?_))
        refine Zn ?_
        exact ⟨⟨v55, z.u.keys.take m ++ [s.key] ++ z.u.keys.drop m⟩, ⟨hs55, by rw [if_pos hK]⟩, Wk.re (.cons rfl lr (.cons rfl lr .nil)) (Reown.ofEq (by show [_, Own.box z.b _, Own.arr v55 eStr _, _, _] = _; rw [keysAV_ins]; rfl)) (fun _ h => by first | exact h | simp [h])⟩
      have hK : s.isKey = false := c2
      refine Zk ?_
      exact ⟨⟨z.kv, z.u.keys⟩, ⟨hV.k1, by rw [if_neg (by simp [hK])]⟩, Wk.re (.cons rfl lr (.cons rfl lr .nil)) (Reown.refl _) (fun _ h => by first | exact h | simp [h])⟩
    · intro ⟨kv2, ks2⟩ ⟨hk2, hks2⟩
      refine J.conv (by (try simp only [nl, stepsO, valO, nthO, curO, mrg, AV.cellsOf, splice_zero, splice_succ, Nat.reduceAdd]); rfl) ?_
      refine Zs (Zq rfl (QW.move (.tmp rfl)) (Zq rfl (QW.move (.tmp rfl)) (Zq rfl (QW.nil_ptr (.tmp rfl)) (Zq rfl (QW.field_ptr fo29_4 (.tmp rfl) rfl) (Zq rfl (QW.load_box1 1 ty27 (.tmp rfl) rfl ((hole_at ho 4 (by decide)).trans rfl)) ?_)))))
      refine Zq rfl (QW.move (.tmp rfl)) (Zq rfl (QW.build (idx := []) pl29 z29 rfl .nil rfl rfl rfl rfl) (Zq rfl (QW.buildSlice (idx := [0]) (xs := [nilC]) sl27 el29 z29 rfl (.cons (.tmp rfl) .nil) rfl rfl rfl rfl rfl rfl rfl rfl rfl) (JL.callRF [.k, .k, .k, .p] gofn151 rfl Lent.nil (fun _ => (.cons (.tmp rfl) (.cons (.tmp rfl) (.cons (.tmp rfl) .nil)))) (insVal_ok (xs := ci) (i := m) (by omega) rfl (by unfold reach; omega)) (.inl rfl) fun x66 o66 h66 => ?_)))
      obtain ⟨v66, rfl, hs66, rfl⟩ := h66
      refine Zq rfl (QW.nil_ptr (.tmp rfl)) (Zq rfl (QW.field_ptr fo29_4 (.tmp rfl) rfl) (JL.store_box 1 ty27 (.tmp rfl) rfl (.tmp rfl) (by assumption) rfl (by rw [hole_len _ _ _ _ ho]; exact Nat.ble_eq_true_of_le (by omega)) (hole_setI ho) rfl ?_))
      exact Zn (J.seq (J.reown (Reown.cons (Reown.cons (Reown.cons (Reown.grp2 _ _ _)))) (J.region_lit (Zq rfl (QW.move (.tmp rfl)) (Zq rfl (QW.assign (.tmp rfl)) (Zq rfl (QW.assign .const) (Zn (J.ret (Zr [.k, .p, .p, .p] (RetEv.two rfl (REv.tmp rfl lr) (REv.tmp rfl lr)) rfl ⟨_, rfl, GrowR.yes (m := m) hie he0 (by rw [hgm, if_neg h32]) rfl ⟨hk2, hs66, by (rw [show (z.u.ins s m .nil).keys = ks2 from hks2.symm]; exact keys_tr (by rw [hks2]; split <;> ((try simp only [List.length_append, List.length_take, List.length_drop, List.length_singleton]); unfold reach; omega))), ins_tr hmi q2 q3 q1 q4 q5 (by unfold reach; omega)⟩⟩)))))))))
end Go.Proofs.YtjhonjdhanlbkaaGreat.J

/- Walks: a part of a value is another one. -/
namespace Go.Proofs.YtjhonjdhanlbkaaGreat.J
open Go Go.RowKit
set_option maxRecDepth 10000
set_option maxHeartbeats 4000000
theorem V.nil_fine : V.nil.Fine := .mk rfl fun _ h => by cases h
theorem V.ins_get {u : V} {s : StT} {m : Nat} (hm : m ≤ u.items.length) : ∃ h : m < (u.ins s m .nil).items.length, (u.ins s m .nil).items[m] = .nil := by
  have hl : m < (u.items.take m ++ [V.nil] ++ u.items.drop m).length := by simp; omega
  refine ⟨hl, ?_⟩
  show (u.items.take m ++ [V.nil] ++ u.items.drop m)[m]'hl = .nil
  simp [List.getElem_append, Nat.min_eq_left hm]
theorem V.ins_set {u x : V} {s : StT} {m : Nat} (hm : m ≤ u.items.length) : (u.ins s m .nil).setAt m x = u.ins s m x := by
  obtain ⟨k, b, t, ks, is⟩ := u
  simp only [V.items] at hm
  simp only [V.setAt, V.ins, V.kind, V.bits, V.text, V.keys, V.items]
  congr 1
  rw [List.append_assoc, List.set_append_right _ _ (by simp; omega)]
  simp [Nat.min_eq_left hm]
theorem V.grw_le {u : V} {s : StT} {i m : Nat} {e : Int} (hp : partOk u = true) (h : u.fnd s = (i, e)) (he : e ≠ 0) (hg : u.grw s i e = (m, 0)) : m ≤ u.items.length := by
  unfold V.grw at hg
  split at hg
  · cases hg
  · split at hg
    · split at hg
      · cases hg
      · cases hg; exact Nat.le_refl _
    · split at hg
      · rename_i h1 h2 h3
        cases hg; exact absurd rfl he
      · rename_i h3
        split at hg
        · cases hg
        · cases hg
          have h71 : e = 71 := Decidable.byContradiction h3
          rcases fnd_cases h with h | h | h | h
          · exact absurd h he
          · have := (partOk_rec hp h.2.2.1).1; omega
          · omega
          · omega
theorem V.stp_no {u u2 x : V} {s : StT} {r : List StT} {i2 : Nat} {e2 : Int} (h : u.stp s (decide (r = [])) = (u2, i2, e2)) (he : e2 ≠ 0) : u.set (s :: r) x = (.nil, e2) := by
  unfold V.stp at h
  split at h
  · cases h; exact absurd rfl he
  · rename_i h0
    split at h
    · rename_i hr
      have hr : r = [] := by simpa using hr
      subst hr
      split at h
      · cases h; exact absurd rfl he
      · rename_i hg
        cases h
        show u.put s x = _
        rw [V.put, if_neg h0, if_neg hg]
    · rename_i hr
      cases h
      cases r with
      | nil => simp at hr
      | cons t r => rw [V.set, if_pos h0]
theorem V.stp_yes {u u2 x : V} {s : StT} {r : List StT} {i2 : Nat} (hf : u.Fine) (hw : u.wf) (hs : s.wf) (h : u.stp s (decide (r = [])) = (u2, i2, 0)) :
    ∃ hlt : i2 < u2.items.length, u2.wf ∧ u2.items[i2].Fine ∧ u.set (s :: r) x = if (u2.items[i2].set r x).2 ≠ 0 then (.nil, (u2.items[i2].set r x).2) else (u2.setAt i2 (u2.items[i2].set r x).1, 0) := by
  unfold V.stp at h
  split at h
  · rename_i h0
    cases h
    have hlt := V.fnd_lt hf.part h0
    refine ⟨hlt, hw, hf.kid (List.getElem_mem hlt), ?_⟩
    cases r with
    | nil => show u.put s x = _; rw [V.put, if_pos h0]; rfl
    | cons t r => rw [V.set, if_neg (by simp [h0]), V.kid_eq hlt]
  · rename_i h0
    split at h
    · rename_i hr
      have hr : r = [] := by simpa using hr
      subst hr
      split at h
      · rename_i hg
        cases h
        have hm := V.grw_le (m := (u.grw s (u.fnd s).1 (u.fnd s).2).1) hf.part (i := (u.fnd s).1) (e := (u.fnd s).2) rfl h0 (Prod.ext rfl hg)
        obtain ⟨hlt, hnil⟩ := V.ins_get (s := s) hm
        refine ⟨hlt, V.ins_wf hw hf.part hs V.wf_nil, by rw [hnil]; exact V.nil_fine, ?_⟩
        show u.put s x = if (V.set _ [] x).2 ≠ 0 then _ else (V.setAt _ _ x, 0)
        rw [V.put, if_neg h0, if_pos hg, V.ins_set hm]
        rfl
      · rename_i hg
        have := congrArg (·.2.2) h
        exact absurd this hg
    · have := congrArg (·.2.2) h
      exact absurd this h0
def plugR (f : V → V) (w : V × Int) : V × Int := if w.2 ≠ 0 then (.nil, w.2) else (f w.1, 0)
theorem plugR_id (w : V × Int) (h : w.2 ≠ 0 → w.1 = .nil) : plugR id w = w := by
  unfold plugR
  split
  · rename_i h0; rw [← h h0]
  · rename_i h0
    have : w.2 = 0 := Decidable.byContradiction h0
    exact Prod.ext rfl this.symm
theorem V.set_nil : ∀ {p : List StT} {v x : V}, (v.set p x).2 ≠ 0 → (v.set p x).1 = .nil
  | [], v, x, h => absurd rfl h
  | [s], v, x, h => by
    change (v.put s x).2 ≠ 0 at h
    show (v.put s x).1 = .nil
    unfold V.put at h ⊢
    split
    · rename_i h0; rw [if_pos h0] at h; exact absurd rfl h
    · rename_i h0
      rw [if_neg h0] at h
      split
      · rename_i h1; rw [if_pos h1] at h; exact absurd rfl h
      · rfl
  | s :: t :: r, v, x, h => by
    unfold V.set at h ⊢
    split
    · rfl
    · rename_i h0
      rw [if_neg h0] at h
      split
      · rfl
      · rename_i h1; rw [if_neg h1] at h; exact absurd rfl h
theorem plugR_if (f : V → V) (u : V) (i : Nat) (w : V × Int) : plugR f (if w.2 ≠ 0 then (.nil, w.2) else (u.setAt i w.1, 0)) = plugR (fun z => f (u.setAt i z)) w := by
  unfold plugR
  by_cases h : w.2 = 0
  · simp [h]
  · simp [h]
theorem setv_err {v x w : V} {p : List StT} {e : Int} (hv : v.err = 0) (hx : x.err = 0) (h : v.set p x = (w, e)) (he : e ≠ 0) : v.setv p x = (.nil, e) := by rw [V.setv, if_neg (by simp [hv]), if_neg (by simp [hx]), h, if_pos he]
theorem setv_bad {v x w : V} {p : List StT} (hv : v.err = 0) (hx : x.err = 0) (h : v.set p x = (w, 0)) (he : w.err ≠ 0) : v.setv p x = (.nil, w.err) := by rw [V.setv, if_neg (by simp [hv]), if_neg (by simp [hx]), h, if_neg (by simp), if_pos he]
theorem setv_ok {v x w : V} {p : List StT} (hv : v.err = 0) (hx : x.err = 0) (h : v.set p x = (w, 0)) (he : w.err = 0) : v.setv p x = (w, 0) := by rw [V.setv, if_neg (by simp [hv]), if_neg (by simp [hx]), h, if_neg (by simp), if_neg (by simp [he])]
def setAV (v : V) (p : List StT) (x : V) : AV := .tup [.agg ((v.setv p x).1.cs true), .c (.int .i64 (v.setv p x).2)]
theorem setAV_of {v u x : V} {p : List StT} {e : Int} (h : v.setv p x = (u, e)) : setAV v p x = .tup [.agg (u.cs true), .c (.int .i64 e)] := by rw [setAV, h]
theorem fndAV_fresh (v : V) (s : StT) : Fresh (fndAV v s) := .tup (FlL.cons (.c _) (FlL.cons (.c _) .nil))
theorem Reown.rot3 (a b c d : Own) (l : List Own) : Reown (a :: b :: c :: d :: l) (b :: c :: d :: a :: l) := .perm (List.perm_middle (l₁ := [b, c, d])).symm
theorem Reown.step {cur ok bx ctx kids ok3 oi3 ob oa : Own} (h : Reown [kids] [ok3, oi3, ob, oa]) : Reown [cur, ok, bx, ctx, kids] [bx, ok3, oi3, .grp [cur, ok, ob, oa, ctx]] := by
  refine (Reown.left (c := [cur, ok, bx, ctx]) h).trans ⟨fun y => by simp only [fps_cons, fps_nil, fp_grp, List.count_append, List.count_nil, List.cons_append, List.nil_append]; omega, fun w A h => ?_⟩
  simp only [List.forall_mem_cons, List.cons_append, List.nil_append, ok_grp, List.not_mem_nil, false_implies, implies_true, and_true] at h ⊢
  obtain ⟨q1, q2, q3, q4, q5, q6, q7, q8⟩ := h
  exact ⟨q3, q5, q6, q1, q2, q7, q8, q4⟩
theorem Reown.fin {cur ok oi ctx okx oix : Own} {l : List Own} (h : Reown [cur, okx, oix, ctx] l) : Reown [cur, ok, oi, ctx, okx, oix] l := by
  refine Reown.trans ⟨fun y => by simp only [fps_cons, fps_nil, List.count_append, List.count_nil]; omega, fun w A h => ?_⟩ h
  simp only [List.forall_mem_cons, List.not_mem_nil, false_implies, implies_true, and_true] at h ⊢
  exact ⟨h.1, h.2.2.2.2.1, h.2.2.2.2.2, h.2.2.2.1⟩
theorem pair_at {fr : Bool} {v x : V} {j : Nat} (h : j < 2) : ((v.cs fr ++ x.cs fr).drop (j * 5)).take 5 = (if j = 0 then v else x).cs fr := by
  have h1 := V.cs_length fr v
  have h2 := V.cs_length fr x
  rcases Nat.lt_or_ge j 1 with h0 | h0
  · obtain rfl : j = 0 := by omega
    rw [Nat.zero_mul, List.drop_zero, List.take_left' h1]; rfl
  · obtain rfl : j = 1 := by omega
    rw [Nat.one_mul, List.drop_left' h1, List.take_of_length_le (by omega)]; rfl
theorem cells_at {cs : List (List AV)} {sp : List Value} {i : Nat} {c : List AV} (h : cs[i]? = some c) : cs.flatten ++ sp.map AV.c = (cs.take i).flatten ++ c ++ ((cs.drop (i + 1)).flatten ++ sp.map AV.c) := by
  obtain ⟨hi, rfl⟩ := List.getElem?_eq_some_iff.1 h
  have h2 := congrArg List.flatten (show cs = cs.take i ++ cs[i] :: cs.drop (i + 1) by rw [← List.drop_eq_getElem_cons hi, List.take_append_drop])
  rw [List.flatten_append, List.flatten_cons] at h2
  rw [h2]
  simp only [List.append_assoc]
theorem set_ok {fr fr2 c2 : Bool} {v x : V} {p : List StT} {ys zs : List AV} (hv : Vc fr v ys) (hx : Vc fr x zs) (hw : v.wf) (hxw : x.wf) (hp : p.length * 32 ≤ reach ∧ ∀ s ∈ p, s.wf) : Fn Tryz.prog 103 [.agg ys, .sl fr2 c2 eSt (StT.css p), .agg zs] (setAV v p x) := by
  obtain ⟨hp80, hpw⟩ := hp
  have hpl : p.length ≤ 4398046511104 := by unfold reach at hp80; omega
  subst hv hx
  refine AC.of_J Tryz.func103 rfl Tryz.ntmps103 rfl fun w0 A0 => ?_
  refine Zs (JL.box_agg (.tmp rfl) rfl fun b3 => JL.box_agg (.tmp rfl) rfl fun b5 => JL.alloc z29 rfl rfl fun b6 => Zq rfl (QW.assign .const) (Zn (J.seq (Zs (Zq rfl (QW.load_box 2 ty29 (.tmp rfl) rfl (take_at vl rfl) vl) (Zq rfl (QW.load_box 1 ty29 (.tmp rfl) rfl (take_at vl rfl) vl) ?_))))))
  refine Zq rfl (QW.buildA (idx := [0, 1]) (sz := 5) (by kernel_rfl) z155 rfl (.cons (.tmp rfl) (.cons (.tmp rfl) .nil)) rfl rfl rfl (fill_two (z0 := nilC) (z1 := nilC) rfl rfl (by exact vl) (by exact vl))) ?_
  refine Zq rfl (QW.move .const) (Zn (J.block (J.loopK (ι := Nat) [1, 3, 5, 6, 20] (fun j => [(21, .c (.int .i64 (j : Int)))]) (fun _ oo => oo) (fun j => j ≤ 2 ∧ (0 < j → v.err = 0) ∧ (1 < j → x.err = 0)) (fun j => 2 - j) 0 (⟨by decide, fun h => absurd h (by decide), fun h => absurd h (by decide)⟩) (Wk.re (.cons rfl lr (.cons rfl lr (.cons rfl lr (.cons rfl lr (.cons rfl lr (.cons rfl lr .nil)))))) (Reown.refl _) (fun _ h => by first | exact h | simp [h])) ?_)))
  intro j ⟨hj2, he1, he2⟩
  refine J.conv (by (try simp only [nl, stepsO, valO, nthO, curO, mrg, AV.cellsOf, splice_zero, splice_succ, Nat.reduceAdd]); rfl) ?_
  refine Zs (Zq rfl (QW.lss (.tmp rfl) .const) (Zn (J.seq ?_)))
  refine J.cond (.tmp rfl) (fun c1 => ?_) (fun c1 => ?_)
  · skip
    have hj1 : j < 2 := by (simp at c1; omega)
    have hwj : (if j = 0 then v else x).wf := by split <;> assumption
    refine Zk (J.seq (J.block (Zs (Zq rfl (QW.indexA (zs := (if j = 0 then v else x).cs fr) (ln := 2) (et := 29) (by kernel_rfl) ty29 (.tmp rfl) (.tmp rfl) rfl (by omega) (pair_at hj1) vl) ?_))))
    refine JL.alloc z29 rfl rfl fun b9 => JL.store_boxF 0 ty29 (.tmp rfl) rfl (.tmp rfl) rfl vl rfl rfl (Zn (Zs (Zq rfl (QW.load_box 0 ty29 (.tmp rfl) rfl (take_at vl rfl) vl) (Zq rfl (QW.call gofn18 (.cons (.tmp rfl) .nil) (check_ok Vc.self hwj)) (Zq rfl (QW.assign (.tmp rfl)) (Zn (Zs (Zq rfl (QW.move (.tmp rfl)) ?_))))))))
    refine Zq rfl (QW.neq (.tmp rfl) .const) (Zn ?_)
    refine J.cond (.tmp rfl) (fun c2 => ?_) (fun c2 => ?_)
    · skip
      simp at c2
      have hbad : v.setv p x = (.nil, (if j = 0 then v else x).err) := by
        by_cases h0 : j = 0
        · rw [if_pos h0] at c2 ⊢
          rw [V.setv, if_pos c2]
        · rw [if_neg h0] at c2 ⊢
          rw [V.setv, if_neg (by simp [he1 (by omega)]), if_pos c2]
      refine Zs (Zq rfl (QW.build (idx := []) pl29 z29 rfl .nil rfl rfl rfl rfl) (Zq rfl (QW.move (.tmp rfl)) (JL.store_boxF 1 ty29 (.tmp rfl) rfl (.tmp rfl) rfl rfl rfl rfl (Zq rfl (QW.assign (.tmp rfl)) (Zn (J.ret (blkQ.r (thenQ.r (thenQ.r ?_)))))))))
      exact blkQ.r (thenQ.r (Zr [.k, .k, .k, .k] (RetEv.two rfl (REv.cell 1 ty29 rfl rfl rfl rfl (.aggL (.cons lr (.cons lr (.cons lr (.cons (.nil true false _) (.cons (.nil true false _) .nil))))))) (REv.tmp rfl lr)) rfl ⟨congrArg Res.ret (setAV_of hbad).symm, rfl⟩))
    simp at c2
    have he1b : v.err = 0 := by
      by_cases h0 : j = 0
      · rw [if_pos h0] at c2; exact c2
      · exact he1 (by omega)
    have he2b : 1 < j + 1 → x.err = 0 := fun h => by
      rw [if_neg (by omega)] at c2; exact c2
    refine J.skip (blkQ.n (thenQ.n (J.region_lit (Zq rfl (QW.add (.tmp rfl) .const (w64 (by omega))) (Zq rfl (QW.move (.tmp rfl)) (Zn ?_))))))
    exact ⟨j + 1, ⟨by omega, fun _ => he1b, he2b⟩, by omega, Wk.re (.cons rfl lr (.cons rfl lr (.cons rfl lr (.cons rfl lr (.cons rfl lr (.cons rfl lr .nil)))))) (Reown.dropN 1 _ rfl) (fun _ h => by first | exact h | simp [h])⟩
  obtain rfl : j = 2 := by (simp at c1; omega)
  have hv0 := he1 (by decide)
  have hx0 := he2 (by decide)
  have hfv := V.fine_of hv0
  refine J.exit (thenQ.x (thenQ.x (blkQ.hit (thenQ.n (Zs (Zq rfl (QW.load_box 2 ty29 (.tmp rfl) rfl (take_at vl rfl) vl) (JL.callRF [] gofn32 rfl Lent.nil (fun _ => (.cons (.tmp rfl) .nil)) (clone_ok Vc.self hw) (.inl rfl) fun x32 o32 h32 => ?_)))))))
  obtain ⟨kv32, iv32, ok32, oi32, rfl, rfl, hV32⟩ := h32
  refine JL.alloc z29 rfl rfl fun b11 => JL.store_boxF 0 ty29 (.tmp rfl) rfl (.tmp rfl) rfl rfl rfl rfl (Zn (Zs (Zq rfl (QW.assign (.tmp rfl)) (Zn (J.seq (Zs (Zq rfl (QW.move (.tmp rfl)) (Zq rfl (QW.len_slE sl121 (.tmp rfl) (StT.css_length _)) ?_))))))))
  refine Zq rfl (QW.move .const) (Zn (J.block (J.reown ((Reown.rot3 _ _ _ _ _).trans (Reown.nilGrpE _)) (J.loopK (ι := Nat × At) [1, 5, 6, 11, 33, 34] (fun ⟨j, z⟩ => [(35, .c (.int .i64 (j : Int))), (12, .c (.pointer (some ⟨z.b, z.off, none⟩)))]) (fun ⟨j, z⟩ oo => List.set (List.set (List.set (List.set oo 3 (.box z.b (holeC z z.u z.kv z.iv))) 4 (z.ok)) 5 (z.oi)) 6 (z.ctx)) (fun ⟨j, z⟩ => j ≤ p.length ∧ z.Ok b11 ∧ v.set p x = plugR z.plug (z.u.set (p.drop j) x)) (fun ⟨j, z⟩ => p.length - j) ⟨0, ⟨b11, 0, [], [], v, kv32, iv32, ok32, oi32, .grp [], id⟩⟩ (⟨Nat.zero_le _, ⟨rfl, hV32, Law.root b11, hfv, hw⟩, (plugR_id _ V.set_nil).symm⟩) (Wk.re (.cons rfl lr (.cons rfl lr (.cons rfl lr (.cons rfl lr (.cons rfl lr (.cons rfl lr (.cons rfl lr (.cons rfl lr .nil)))))))) (Reown.ofEq rfl) (fun _ h => by first | exact h | simp [h])) ?_))))
  intro ⟨j, z⟩ ⟨hj, hz, hset⟩
  refine J.conv (by (try simp only [nl, stepsO, valO, nthO, curO, mrg, AV.cellsOf, splice_zero, splice_succ, Nat.reduceAdd]); rfl) ?_
  refine Zs (Zq rfl (QW.lss (.tmp rfl) (.tmp rfl)) (Zn (J.seq ?_)))
  refine J.cond (.tmp rfl) (fun c2 => ?_) (fun c2 => ?_)
  · skip
    have hlt : j < p.length := by simpa using c2
    have hsw := hpw _ (List.getElem_mem hlt)
    refine Zk (J.seq (J.block (Zs (Zq rfl (QW.move (.tmp rfl)) (Zq rfl (QW.index_sl sl121 ty120 rfl (.tmp rfl) (.tmp rfl) rfl (by exact StT.css_getE hlt)) ?_)))))
    refine Zq rfl (QW.load_ref ty120 (.tmp rfl) rfl rfl) (JL.alloc z120 rfl rfl fun b14 => Zq rfl (QW.assign (.tmp rfl)) (JL.store_boxF 0 ty120 (.tmp rfl) rfl (.tmp rfl) rfl rfl rfl rfl (Zn (J.seq (J.region_tailK 9 mixed (by kernel_rfl) (by kernel_rfl) (by kernel_rfl) rfl ?_)))))
    refine .cons [] rfl rfl rfl (.q rfl (QW.move (.tmp rfl))) ?_
    refine .cons [41] rfl rfl rfl (.q rfl (QW.nil_ptr (.tmp rfl))) ?_
    refine .cons [42] rfl rfl rfl (.q rfl (QW.load_box 4 ty29 (.tmp rfl) rfl (hole_load hz.off) rfl)) ?_
    refine .cons [] rfl rfl rfl (.q rfl (QW.load_box 0 ty120 (.tmp rfl) rfl rfl rfl)) ?_
    refine .cons [43, 44] rfl rfl rfl (.q rfl (QW.callLF [.k, .k, .k, .k, .k, .l, .l] gofn133 (Lent.cons (hz.tr.lentK) (Lent.cons (hz.tr.lentI) Lent.nil)) rfl rfl (fun _ => (.cons (Ev.le (.tmp rfl) (V.raw_le (by simp) (by simp))) (.cons (.tmp rfl) .nil))) (find_ok (fr := false) (v := z.u) (s := p[j]'hlt) Vc.self Sc.self hz.fine.part (hpw _ (List.getElem_mem hlt))) (fndAV_fresh _ _))) ?_
    refine .cons [45] rfl rfl rfl (.q rfl (QW.move (.tmp rfl))) ?_
    refine .cons [40] rfl rfl rfl (.q rfl (QW.extract (.tmp rfl) rfl)) ?_
    refine .cons [40] rfl rfl rfl (.q rfl (QW.extract (.tmp rfl) rfl)) ?_
    refine .cons [46] rfl rfl rfl (.q rfl (QW.assign (.tmp rfl))) ?_
    refine .nil ?_
    refine Zq rfl (QW.assign (.tmp rfl)) (Zn (J.cutK (ι := V × Nat × Int × Value × Value × Own × Own) [1, 5, 6, 11, 12, 13, 14, 33, 34, 35, 36, 37, 38, 39, 40, 41, 42, 43, 44, 45, 46, 47] (fun ⟨u2, i2, e2, kv2, iv2, ok2, oi2⟩ => [(15, .c (.int .i64 (i2 : Int))), (16, .c (.int .i64 e2))]) (fun ⟨u2, i2, e2, kv2, iv2, ok2, oi2⟩ oo => List.set (List.set (List.set oo 4 (.box z.b (holeC z u2 kv2 iv2))) 5 (ok2)) 6 (oi2)) (fun ⟨u2, i2, e2, kv2, iv2, ok2, oi2⟩ => z.u.stp (p[j]'hlt) (decide (p.drop (j + 1) = [])) = (u2, i2, e2) ∧ VTr u2 kv2 iv2 ok2 oi2) ?_ ?_))
    · skip
      refine Zs (Zq rfl (QW.move (.tmp rfl)) (Zq rfl (QW.neq (.tmp rfl) .const) (Zq rfl (QW.move (.tmp rfl)) (Zg rfl (fun hg => (QW.move (.tmp rfl))) (Zg rfl (fun hg => (QW.move (.tmp rfl))) (Zg rfl (fun hg => (QW.len_slE sl121 (.when rfl hg) (StT.css_length _))) (Zg rfl (fun hg => (QW.sub (.when rfl hg) .const (w64 (by omega)))) (Zg rfl (fun hg => (QW.eql (.when rfl hg) (.when rfl hg))) (Zq rfl (QW.pick_and (.tmp rfl) (.tmp rfl)) ?_)))))))))
      refine Zn ?_
      refine J.cond (.tmp rfl) (fun c3 => ?_) (fun c3 => ?_)
      · skip
        have he0 : (z.u.fnd (p[j]'hlt)).2 ≠ 0 := by (simp at c3; exact c3.1)
        have hlast : p.drop (j + 1) = [] := by (simp at c3; exact List.drop_of_length_le (by omega))
        refine J.region_lit (Zq rfl (QW.move (.tmp rfl)) (Zq rfl (QW.load_box 0 ty120 (.tmp rfl) rfl rfl rfl) (Zq rfl (QW.move (.tmp rfl)) (Zq rfl (QW.move (.tmp rfl)) (JL.callRF [.k, .k, .k, .k, .p, .p, .p] gofn134 rfl Lent.nil (fun _ => (.cons (.tmp rfl) (.cons (.tmp rfl) (.cons (.tmp rfl) (.cons (.tmp rfl) .nil))))) (grow_ok (z := z) (s := p[j]'hlt) (i := (z.u.fnd (p[j]'hlt)).1) (e := (z.u.fnd (p[j]'hlt)).2) Sc.self hz.off hz.tr hz.fine.part hz.wf (hpw _ (List.getElem_mem hlt)) rfl he0) (.inl rfl) fun x62 o62 h62 => ?_)))))
        obtain ⟨kv62, iv62, ok62, oi62, rfl, rfl, hV62⟩ := h62
        refine Zq rfl (QW.move (.tmp rfl)) (Zq rfl (QW.extract (.tmp rfl) rfl) (Zq rfl (QW.extract (.tmp rfl) rfl) (Zq rfl (QW.assign (.tmp rfl)) (Zq rfl (QW.assign (.tmp rfl)) (Zn ?_)))))
        exact ⟨⟨_, _, _, kv62, iv62, ok62, oi62⟩, ⟨by rw [hlast]; rfl, hV62⟩, Wk.re (.cons rfl lr (.cons rfl lr (.cons rfl lr (.cons rfl lr (.cons rfl lr (.cons rfl lr (.cons rfl lr (.cons rfl lr (.cons rfl lr (.cons rfl lr (.cons rfl lr (.cons rfl lr (.cons rfl lr (.cons rfl lr (.cons rfl lr (.cons rfl lr (.cons rfl lr (.cons rfl lr (.cons rfl lr (.cons rfl lr (.cons rfl lr (.cons rfl lr (.cons rfl lr (.cons rfl lr .nil)))))))))))))))))))))))) (Reown.refl _) (fun _ h => by first | exact h | simp [h])⟩
      have hno : (z.u.fnd (p[j]'hlt)).2 = 0 ∨ p.drop (j + 1) ≠ [] := by
        simp at c3
        by_cases h0 : (z.u.fnd (p[j]'hlt)).2 = 0
        · exact .inl h0
        · refine .inr fun hd => ?_
          have := c3 h0
          rw [List.drop_eq_nil_iff] at hd
          omega
      refine Zk ?_
      exact ⟨⟨z.u, (z.u.fnd (p[j]'hlt)).1, (z.u.fnd (p[j]'hlt)).2, z.kv, z.iv, z.ok, z.oi⟩, ⟨by unfold V.stp; by_cases h0 : (z.u.fnd (p[j]'hlt)).2 = 0; (rw [if_pos h0, h0]); (rw [if_neg h0, if_neg (by simpa using hno.resolve_left h0)]), hz.tr⟩, Wk.re (.cons rfl lr (.cons rfl lr (.cons rfl lr (.cons rfl lr (.cons rfl lr (.cons rfl lr (.cons rfl lr (.cons rfl lr (.cons rfl lr (.cons rfl lr (.cons rfl lr (.cons rfl lr (.cons rfl lr (.cons rfl lr (.cons rfl lr (.cons rfl lr (.cons rfl lr (.cons rfl lr (.cons rfl lr (.cons rfl lr (.cons rfl lr (.cons rfl lr (.cons rfl lr (.cons rfl lr .nil)))))))))))))))))))))))) (Reown.refl _) (fun _ h => by first | exact h | simp [h])⟩
    · intro ⟨u2, i2, e2, kv2, iv2, ok2, oi2⟩ ⟨hst, hV2⟩
      refine J.conv (by (try simp only [nl, stepsO, valO, nthO, curO, mrg, AV.cellsOf, splice_zero, splice_succ, Nat.reduceAdd]); rfl) ?_
      refine J.seq (Zs (Zq rfl (QW.move (.tmp rfl)) (Zq rfl (QW.neq (.tmp rfl) .const) (Zn ?_))))
      refine J.cond (.tmp rfl) (fun c3 => ?_) (fun c3 => ?_)
      · skip
        have he2 : e2 ≠ 0 := by simpa using c3
        refine Zs (Zq rfl (QW.build (idx := []) pl29 z29 rfl .nil rfl rfl rfl rfl) (Zq rfl (QW.move (.tmp rfl)) (JL.store_boxF 1 ty29 (.tmp rfl) rfl (.tmp rfl) rfl rfl rfl rfl (Zq rfl (QW.assign (.tmp rfl)) (Zn (J.ret (thenQ.r (blkQ.r (thenQ.r ?_)))))))))
        exact thenQ.r (blkQ.r (thenQ.r (Zr [.k, .k, .k, .k, .k, .k, .k, .k] (RetEv.two rfl (REv.cell 1 ty29 rfl rfl rfl rfl (.aggL (.cons lr (.cons lr (.cons lr (.cons (.nil true false _) (.cons (.nil true false _) .nil))))))) (REv.tmp rfl lr)) rfl ⟨congrArg Res.ret (setAV_of (setv_err hv0 hx0 (e := e2) (w := .nil) (by rw [hset, drop_at hlt, V.stp_no hst he2]; simp [plugR, he2]) he2)).symm, rfl⟩)))
      obtain rfl : e2 = 0 := by simpa using c3
      obtain ⟨hlt2, huw2, hfk, hset3⟩ := V.stp_yes (x := x) hz.fine hz.wf hsw hst
      refine Zk ?_
      obtain ⟨ci, ui, o2, q1, q2, q3, q4, q5, q6⟩ := hV2.is.inv
      rw [V.css_length] at q2
      refine J.reown (Reown.split2 (i := 6) rfl q6) (J.lay 6 rfl (fun a0 hv hx => absurd hlt2 (by rw [← q2, hx]; simp)) fun b2 cap sp hiv hcap hsz5 hfl => ?_)
      subst hiv
      refine J.region_lit (Zq rfl (QW.move (.tmp rfl)) (Zq rfl (QW.nil_ptr (.tmp rfl)) (Zq rfl (QW.field_ptr fo29_4 (.tmp rfl) rfl) (Zq rfl (QW.load_box1 4 ty27 (.tmp rfl) rfl ((hole_at hz.off 4 (by decide)).trans rfl)) ?_))))
      refine Zq rfl (QW.move (.tmp rfl)) (Zq rfl (QW.index_c (m := i2) sl27 ty29 (.tmp rfl) (.tmp rfl) rfl (by omega)) (Zq rfl (QW.assign (.tmp rfl)) (JL.nil (blkQ.n (thenQ.n ?_)))))
      obtain ⟨kv3, iv3, ok3, oi3, ob, oa, u1, u3, e1, e3, e4, e5, e6, e7, e8, e9, e10⟩ := kids_at hlt2 q2 q3 q1 q4 q5
      refine J.reown (Reown.cons (Reown.cons (Reown.cons (Reown.cons (Reown.step e10))))) (J.region_lit (Zq rfl (QW.add (.tmp rfl) .const (w64 (by omega))) (Zq rfl (QW.move (.tmp rfl)) (Zn ?_))))
      exact ⟨⟨j + 1, ⟨b2, 0 + i2 * 5, (ci.take i2).flatten, (ci.drop (i2 + 1)).flatten ++ sp.map AV.c, u2.items[i2], kv3, iv3, ok3, oi3, .grp [.box z.b (holeC z u2 kv2 (sv b2 0 ci.length (cap + 1))), ok2, ob, oa, z.ctx], fun w => z.plug (u2.setAt i2 w)⟩⟩, ⟨hlt, ⟨by rw [flatten_length (sz := 5) _ (fun x hx => q3 x (List.mem_of_mem_take hx)), List.length_take, Nat.min_eq_left (by omega)]; exact (Nat.zero_add _).symm, e3, hz.law.into huw2 hV2.k1 hV2.i1 hV2.ks hlt2 q2 q3 rfl hcap hfl e4 e5 e6 e7 e8 e9, hfk, huw2.kid (List.getElem_mem hlt2)⟩, by rw [hset, drop_at hlt, hset3, plugR_if]⟩, by show p.length - (j + 1) < p.length - j; omega, Wk.re (.cons rfl lr (.cons rfl lr (.cons rfl lr (.cons rfl lr (.cons rfl lr (.cons rfl lr (.cons rfl lr (.cons rfl lr .nil)))))))) ((Reown.dropN 1 _ rfl).trans (Reown.ofEq (by show [_, _, _, Own.box b2 _, _, _, _] = [_, _, _, Own.box b2 _, _, _, _]; rw [cells_at e1]; rfl))) (fun _ h => by first | exact h | simp [h])⟩
  have hge : p.length ≤ j := by simpa using c2
  rw [List.drop_of_length_le hge] at hset
  have hset2 : v.set p x = (z.plug x, 0) := hset
  have hww : (z.plug x).wf := by have := V.set_wf hw hfv hpw hxw; rwa [hset2] at this
  refine J.exit (thenQ.x (thenQ.x (blkQ.hit (thenQ.n (Zs (Zq rfl (QW.move (.tmp rfl)) (Zq rfl (QW.load_box 1 ty29 (.tmp rfl) rfl (take_at vl rfl) vl) (JL.callRF [] gofn32 rfl Lent.nil (fun _ => (.cons (.tmp rfl) .nil)) (clone_ok Vc.self hxw) (.inl rfl) fun x78 o78 h78 => ?_))))))))
  obtain ⟨kv78, iv78, ok78, oi78, rfl, rfl, hV78⟩ := h78
  refine Zq rfl (QW.nil_ptr (.tmp rfl)) (JL.store_box 3 ty29 (.tmp rfl) rfl (.tmp rfl) rfl rfl (by rw [hole_len _ _ _ _ hz.off]; exact Nat.ble_eq_true_of_le (by omega)) (hole_put hz.off) rfl ?_)
  refine Zn (J.seq (J.seq ?_))
  obtain ⟨kw, iw, okw, oiw, hW, hR⟩ := hz.law x kv78 iv78 ok78 oi78 hxw hV78
  refine J.reown (Reown.cons (Reown.cons (Reown.cons (Reown.fin hR)))) (J.region_lit (Zq rfl (QW.load_box 3 ty29 (.tmp rfl) rfl rfl rfl) (Zq rfl (QW.callLF [.k, .k, .k, .k, .l, .l] gofn18 (Lent.cons (hW.lentK) (Lent.cons (hW.lentI) Lent.nil)) rfl rfl (fun _ => (.cons (Ev.le (.tmp rfl) (V.raw_le (by simp) (by simp))) .nil)) (check_ok (fr := false) (v := z.plug x) Vc.self hww) (Fl.c _)) ?_)))
  refine Zq rfl (QW.assign (.tmp rfl)) (Zn (Zs (Zq rfl (QW.move (.tmp rfl)) (Zq rfl (QW.neq (.tmp rfl) .const) (Zn ?_)))))
  refine J.cond (.tmp rfl) (fun c3 => ?_) (fun c3 => ?_)
  · skip
    have hbd : (z.plug x).err ≠ 0 := by simpa using c3
    exact Zs (Zq rfl (QW.build (idx := []) pl29 z29 rfl .nil rfl rfl rfl rfl) (Zq rfl (QW.move (.tmp rfl)) (JL.store_boxF 0 ty29 (.tmp rfl) rfl (.tmp rfl) rfl rfl rfl rfl (Zq rfl (QW.assign (.tmp rfl)) (Zn (J.ret (thenQ.r (Zr [.k, .k, .k, .k, .k, .k] (RetEv.two rfl (REv.cell 0 ty29 rfl rfl rfl rfl (.aggL (.cons lr (.cons lr (.cons lr (.cons (.nil true false _) (.cons (.nil true false _) .nil))))))) (REv.tmp rfl lr)) rfl ⟨congrArg Res.ret (setAV_of (setv_bad hv0 hx0 hset2 hbd)).symm, rfl⟩))))))))
  have hgd : (z.plug x).err = 0 := by simpa using c3
  refine Zk (J.seq (J.close 4 rfl hW.ks.clos rfl (fun _ h => by cases h) ?_))
  refine J.close 4 rfl hW.is.clos rfl (fun _ h => by cases h) ?_
  exact J.region_lit (Zq rfl (QW.load_box 3 ty29 (.tmp rfl) rfl rfl rfl) (JL.store_boxF 0 ty29 (.tmp rfl) rfl (.tmp rfl) rfl rfl rfl rfl (Zq rfl (QW.assign .const) (Zn (J.ret (Zr [.k, .k, .k, .k] (RetEv.two rfl (REv.cell 0 ty29 rfl rfl rfl rfl (V.raw_le (by simp) (by simp))) (REv.tmp rfl lr)) rfl ⟨congrArg Res.ret (setAV_of (setv_ok hv0 hx0 hset2 hgd)).symm, rfl⟩))))))
end Go.Proofs.YtjhonjdhanlbkaaGreat.J

/- Walks: operations of lists and records. -/
namespace Go.Proofs.YtjhonjdhanlbkaaGreat.J
open Go Go.RowKit
set_option maxRecDepth 10000
set_option maxHeartbeats 4000000
def errE {α : Type} : Except Int α → Int
  | .ok _ => 0
  | .error c => c
def PlR (r : Except Int V) : Res → List Own → Prop := PanR (errE r = 0) (errV (errE r)) fun x o => ∃ v, r = .ok v ∧ x = .agg (v.cs false) ∧ o = []
theorem PlR.ok {r : Except Int V} {v : V} (h : r = .ok v) : PlR r (.ret (.agg (v.cs false))) [] := .inl ⟨by rw [h]; rfl, _, rfl, v, h, rfl, rfl⟩
theorem PlR.er {r : Except Int V} {c : Int} (h : r = .error c) (hc : ¬ c = 0) : PlR r (.pan (.iface 38 (.int .i64 c))) [] := .inr ⟨by rw [h]; exact hc, by rw [h]; rfl, rfl⟩
theorem two_of {l : List V} (h : l.length = 2) : ∃ a b, l = [a, b] := by
  match l, h with
  | [a, b], _ => exact ⟨a, b, rfl⟩
theorem one_of {l : List V} (h : l.length = 1) : ∃ a, l = [a] := by
  match l, h with
  | [a], _ => exact ⟨a, rfl⟩
theorem partOk_txt {v : V} (h : partOk v = true) : v.text.length ≤ 128 := by
  obtain ⟨k, b, t, ks, is⟩ := v
  show t.length ≤ 128
  unfold partOk at h
  have hz : t = [] → t.length ≤ 128 := fun h => by subst h; simp
  by_cases h3 : k = 3
  · subst h3; simp at h; omega
  · refine hz ?_
    simp only [h3, if_false] at h
    repeat' split at h
    all_goals simp at h
    all_goals simp [h]
theorem li_wf {l : List V} (hl : ∀ x ∈ l, x.good) (hn : l.length ≤ 8) : (V.li l).wf := .mk (by decide) (by decide) (by decide) (by decide) (by unfold reach; omega) (fun _ h => by cases h) (fun x hx => (hl x hx).wf)
theorem pe8 (t : Str) (a : V) : plainE 8 t [a] = getE a ⟨true, t, 0⟩ := rfl
theorem pe9 (t : Str) (a b : V) : plainE 9 t [a, b] = if a.kind ≠ 4 ∨ b.kind ≠ 2 then .error 81 else if intE b.bits ≠ 0 then .error 82 else getE a ⟨false, [], intV b.bits⟩ := rfl
theorem pe10 (t : Str) (a : V) : plainE 10 t [a] = if a.kind < 3 then .error 81 else .ok (.nu (ofN ((a.text.length : Int) + (a.items.length : Int)))) := rfl
theorem pe23 (t : Str) (l : List V) : plainE 23 t l = madeE (.li l) := rfl
theorem pe24 (t : Str) (a b : V) : plainE 24 t [a, b] = if a.kind ≠ 4 then .error 81 else setE a ⟨false, [], a.items.length⟩ b := rfl
theorem pe25 (t : Str) (a b : V) : plainE 25 t [a, b] = if a.kind ≠ 5 then .error 81 else setE a ⟨true, t, 0⟩ b := rfl
theorem getE_ok {v : V} {s : StT} (h : (v.getv [s]).2 = 0) : getE v s = .ok (v.getv [s]).1 := if_pos h
theorem getE_er {v : V} {s : StT} (h : ¬ (v.getv [s]).2 = 0) : getE v s = .error (v.getv [s]).2 := if_neg h
theorem setE_ok {v x : V} {s : StT} (h : (v.setv [s] x).2 = 0) : setE v s x = .ok (v.setv [s] x).1 := if_pos h
theorem setE_er {v x : V} {s : StT} (h : ¬ (v.setv [s] x).2 = 0) : setE v s x = .error 84 := if_neg h
theorem step_wf {s : StT} (h : s.wf) : [s].length * 32 ≤ reach ∧ ∀ x ∈ [s], x.wf := ⟨by unfold reach; simp, fun x hx => by rw [List.mem_singleton.1 hx]; exact h⟩
theorem V.le_tf {F : List (Value × AV)} (v : V) : Le F (.agg (v.cs true)) (.agg (v.cs false)) := .aggL (V.cs_le true false (fun h => by cases h) v)
theorem lists_ok {fr : Bool} {o : Int} {bb : Nat} {t : Str} {args : List EX} {l : List V} {ys : List AV} (he : Xc fr (.mk o bb t args) ys) (ht : t.length ≤ reach) (hl : ∀ x ∈ l, x.good) (hn : l.length ≤ 8 ∧ (o = 23 ∨ ((o = 8 ∨ o = 10) ∧ l.length = 1) ∨ ((o = 9 ∨ o = 24 ∨ o = 25) ∧ l.length = 2))) :
    AC Tryz.prog 77 [] [.agg ys, .sl false false eV (V.css false l)] (PlR (plainE o t l)) := by
  subst he
  obtain ⟨hn8, hn⟩ := hn
  refine AC.of_J Tryz.func77 rfl Tryz.ntmps77 rfl fun w0 A0 => ?_
  refine Zs (JL.box_agg (.tmp rfl) rfl fun b2 => JL.alloc z29 rfl rfl fun b4 => Zn (J.seq (Zs (Zq rfl (QW.field_ptr fo34_0 (.tmp rfl) rfl) (Zq rfl (QW.load_box1 1 ty3 (.tmp rfl) rfl rfl) (Zn (J.block ?_)))))))
  refine Zs (Zq rfl (QW.eql (.tmp rfl) .const) (Zq rfl (QW.assign (.tmp rfl)) (Zn ?_)))
  refine J.cond (.tmp rfl) (fun c1 => ?_) (fun c1 => ?_)
  · skip
    obtain rfl : o = 8 := by simpa using c1
    obtain ⟨a, rfl⟩ := one_of (l := l) (by omega)
    have ha := hl a (by simp)
    refine J.seq (J.regionX mixed (Zf 0 [] rfl (fun _ => QW.move (.tmp rfl)) (Zf 1 [17] rfl (fun _ => QW.index_sl sl27 ty29 rfl (.tmp rfl) .const rfl rfl) (Zf 2 [18] rfl (fun _ => QW.load_ref ty29 (.tmp rfl) (take_at0 vl rfl) vl) (Zf 3 [] rfl (fun _ => QW.field_ptr fo34_2 (.tmp rfl) rfl) (Zo 4 1 [20] rfl (fun _ ho_ => QW.load_box1 1 ty9 (.tmp rfl) ho_ rfl) (Zf 5 [21] rfl (fun _ => QW.build (idx := [0, 1]) pl120 z120 rfl (.cons .const (.cons (.tmp rfl) .nil)) rfl rfl rfl rfl) (JX.one 6 [true, true, true, true, true, true] rfl (by kernel_rfl) (by kernel_rfl) rfl rfl (by kernel_rfl) rfl fun bs6_ pe_ ex_ => ?_))))))))
    refine JL.conv (by (try simp only [vlF, bxF, tkM, lvM, Flt.val, Flt.bx, nx, nl, stepsO, valO, nthO, curO, mrg, AV.cellsOf, splice_zero, splice_succ, Nat.reduceAdd]); rfl) ?_
    refine JL.callPF [] gofn101 rfl Lent.nil (fun _ => (.cons (.tmp rfl) (.cons (.tmp rfl) .nil))) (eget_ok (v := a) (s := ⟨true, t, 0⟩) Vc.self ha.wf ⟨ht, show (-9223372036854775808 : Int) ≤ 0 ∧ (0 : Int) ≤ 9223372036854775807 by decide⟩) (.inl rfl) (fun k23 x23 o23 h23 => ?_) (fun k23 => ?_)
    rotate_left
    · skip
      refine thenQ.p (thenQ.p (blkQ.p (thenQ.p ?_)))
      exact ⟨_, selP [.k, .k] _, _, rfl, rfl, sel_perm [.k, .k] _, PlR.er ((pe8 t a).trans (getE_er k23)) k23⟩
    obtain ⟨rfl, rfl⟩ := h23
    refine JL.nil ?_
    refine thenQ.n ⟨[_], _, rfl, rfl, rfl, rfl, rfl, Reown.mrgN 2 rfl rfl, ⟨rfl, rfl⟩, trivial, ?_⟩
    refine JX.conv (S' := [6, 5, 4, 3, 2, 1, 0]) rfl (by (try simp only [lvM]); rfl) (by (try simp only [vlF, bxF, tkM, lvM, Flt.val, Flt.bx, nx, nl, stepsO, valO, nthO, curO, mrg, AV.cellsOf, splice_zero, splice_succ, Nat.reduceAdd]); rfl) ?_
    refine JX.one 7 [] rfl (by kernel_rfl) (by kernel_rfl) rfl rfl (by kernel_rfl) rfl fun bs7_ pe_ ex_ => ?_
    refine JL.conv (by (try simp only [vlF, bxF, tkM, lvM, Flt.val, Flt.bx, nx, nl, stepsO, valO, nthO, curO, mrg, AV.cellsOf, splice_zero, splice_succ, Nat.reduceAdd]); rfl) ?_
    refine JL.store_boxF 0 ty29 (.tmp rfl) rfl (.tmp rfl) rfl vl rfl rfl (JL.nil ?_)
    refine thenQ.n ⟨[], _, rfl, rfl, rfl, rfl, rfl, Reown.tkN 2 rfl, trivial, trivial, ?_⟩
    refine JX.conv (S' := [7, 6, 5, 4, 3, 2, 1, 0]) rfl (by (try simp only [lvM]); rfl) (by (try simp only [vlF, bxF, tkM, lvM, Flt.val, Flt.bx, nx, nl, stepsO, valO, nthO, curO, mrg, AV.cellsOf, splice_zero, splice_succ, Nat.reduceAdd]); rfl) ?_
    refine JX.fin (by kernel_rfl) (by kernel_rfl) fun bs_ => ?_
    refine QX.conv (by (try simp only [vlF, bxF, tkM, lvM, Flt.val, Flt.bx, nx, nl, stepsO, valO, nthO, curO, mrg, AV.cellsOf, splice_zero, splice_succ, Nat.reduceAdd]); rfl) ?_
    exact thenQ.n (J.ret (blkQ.r (thenQ.r (Zr [.k, .k] (RetEv.one rfl (REv.cell 0 ty29 rfl rfl (take_at vl rfl) vl (V.le_tf _))) rfl (PlR.ok ((pe8 t a).trans (getE_ok k23)))))))
  have n8 : ¬ o = 8 := by simpa using c1
  refine Zs (Zq rfl (QW.eql (.tmp rfl) .const) (Zq rfl (QW.assign (.tmp rfl)) (Zn ?_)))
  refine J.cond (.tmp rfl) (fun c2 => ?_) (fun c2 => ?_)
  · skip
    obtain rfl : o = 9 := by simpa using c2
    obtain ⟨a, b, rfl⟩ := two_of (l := l) (by omega)
    have ha := hl a (by simp)
    have hb := hl b (by simp)
    have hb64 := hb.bits
    refine Zs (Zq rfl (QW.move (.tmp rfl)) (Zq rfl (QW.buildSlice (idx := [0, 1]) (xs := intsAV [4, 2]) sl130 el3 z3 rfl (.cons .const (.cons .const .nil)) rfl rfl rfl rfl rfl rfl rfl rfl rfl) ?_))
    refine JL.callPF [] gofn71 rfl Lent.nil (fun _ => (.cons (.tmp rfl) (.cons (.tmp rfl) .nil))) (kinds_ok _ [4, 2] (by simp) (by simp)) (.inl rfl) (fun k28 x28 o28 h28 => ?_) (fun k28 => ?_)
    rotate_left
    · skip
      refine thenQ.p (blkQ.p (thenQ.p ?_))
      exact ⟨_, selP [.k, .k] _, _, rfl, rfl, sel_perm [.k, .k] _, PlR.er (c := 81) ((pe9 t a b).trans (if_pos (by simp [kindsB] at k28; omega))) (by decide)⟩
    obtain ⟨rfl, rfl⟩ := h28
    refine Zn (Zs (Zq rfl (QW.move (.tmp rfl)) (Zq rfl (QW.index_sl sl27 ty29 rfl (.tmp rfl) .const rfl rfl) (Zq rfl (QW.field_ref fo29_1 (.tmp rfl) rfl) (Zq rfl (QW.load_ref1 ty22 (.tmp rfl) (V.cs_1 _ _)) (Zq rfl (QW.call gofn100 (.cons (.tmp rfl) .nil) (int_ok _ (by assumption))) ?_))))))
    refine Zq rfl (QW.move (.tmp rfl)) (Zq rfl (QW.extract (.tmp rfl) rfl) (Zq rfl (QW.extract (.tmp rfl) rfl) (Zq rfl (QW.assign (.tmp rfl)) (Zq rfl (QW.assign (.tmp rfl)) (Zn (Zs (Zq rfl (QW.move (.tmp rfl)) (Zq rfl (QW.eql (.tmp rfl) .const) ?_))))))))
    refine JL.callPF [] gofn45 rfl Lent.nil (fun _ => (.cons (.tmp rfl) (.cons .const .nil))) (nd_ok _ _) (.inl rfl) (fun k39 x39 o39 h39 => ?_) (fun k39 => ?_)
    rotate_left
    · skip
      refine thenQ.p (blkQ.p (thenQ.p ?_))
      exact ⟨_, selP [.k, .k] _, _, rfl, rfl, sel_perm [.k, .k] _, PlR.er (c := 82) (by rw [pe9, if_neg (by simp [kindsB] at k28; omega), if_pos (by simpa using k39)]) (by decide)⟩
    obtain ⟨rfl, rfl⟩ := h39
    refine Zn (Zs (Zq rfl (QW.move (.tmp rfl)) (Zq rfl (QW.index_sl sl27 ty29 rfl (.tmp rfl) .const rfl rfl) (Zq rfl (QW.load_ref ty29 (.tmp rfl) (take_at0 vl rfl) vl) (Zq rfl (QW.move (.tmp rfl)) (Zq rfl (QW.build (idx := [2]) pl120 z120 rfl (.cons (.tmp rfl) .nil) rfl rfl rfl rfl) ?_))))))
    refine JL.callPF [] gofn101 rfl Lent.nil (fun _ => (.cons (.tmp rfl) (.cons (.tmp rfl) .nil))) (eget_ok (v := a) (s := ⟨false, [], intV b.bits⟩) Vc.self ha.wf ⟨by unfold reach; simp, by have := intV_bounds b.bits (by simpa using k39); show (-9223372036854775808 : Int) ≤ intV b.bits ∧ intV b.bits ≤ 9223372036854775807; omega⟩) (.inl rfl) (fun k45 x45 o45 h45 => ?_) (fun k45 => ?_)
    rotate_left
    · skip
      refine thenQ.p (blkQ.p (thenQ.p ?_))
      exact ⟨_, selP [.k, .k] _, _, rfl, rfl, sel_perm [.k, .k] _, PlR.er (by rw [pe9, if_neg (by simp [kindsB] at k28; omega), if_neg (by simpa using k39)]; exact getE_er k45) k45⟩
    obtain ⟨rfl, rfl⟩ := h45
    exact JL.store_boxF 0 ty29 (.tmp rfl) rfl (.tmp rfl) rfl vl rfl rfl (Zn (J.ret (blkQ.r (thenQ.r (Zr [.k, .k] (RetEv.one rfl (REv.cell 0 ty29 rfl rfl (take_at vl rfl) vl (V.le_tf _))) rfl (PlR.ok (by rw [pe9, if_neg (by simp [kindsB] at k28; omega), if_neg (by simpa using k39)]; exact getE_ok k45)))))))
  have n9 : ¬ o = 9 := by simpa using c2
  refine Zs (Zq rfl (QW.eql (.tmp rfl) .const) (Zq rfl (QW.assign (.tmp rfl)) (Zn ?_)))
  refine J.cond (.tmp rfl) (fun c3 => ?_) (fun c3 => ?_)
  · skip
    obtain rfl : o = 10 := by simpa using c3
    obtain ⟨a, rfl⟩ := one_of (l := l) (by omega)
    have ha := hl a (by simp)
    have ha32 := ha.len
    have hat := partOk_txt ha.fine.part
    refine Zs (Zq rfl (QW.move (.tmp rfl)) (Zq rfl (QW.index_sl sl27 ty29 rfl (.tmp rfl) .const rfl rfl) (Zq rfl (QW.field_ref fo29_0 (.tmp rfl) rfl) (Zq rfl (QW.load_ref1 ty3 (.tmp rfl) (V.cs_0 _ _)) (Zq rfl (QW.geq (.tmp rfl) .const) ?_)))))
    refine JL.callPF [] gofn45 rfl Lent.nil (fun _ => (.cons (.tmp rfl) (.cons .const .nil))) (nd_ok _ _) (.inl rfl) (fun k53 x53 o53 h53 => ?_) (fun k53 => ?_)
    rotate_left
    · skip
      refine thenQ.p (blkQ.p (thenQ.p ?_))
      exact ⟨_, selP [.k, .k] _, _, rfl, rfl, sel_perm [.k, .k] _, PlR.er (c := 81) ((pe10 t a).trans (if_pos (by simp at k53; omega))) (by decide)⟩
    obtain ⟨rfl, rfl⟩ := h53
    refine Zn (J.seq (J.regionX mixed (Zf 0 [] rfl (fun _ => QW.move (.tmp rfl)) (Zf 1 [55] rfl (fun _ => QW.index_sl sl27 ty29 rfl (.tmp rfl) .const rfl rfl) (Zf 2 [56] rfl (fun _ => QW.field_ref fo29_2 (.tmp rfl) rfl) (Zf 3 [57] rfl (fun _ => QW.load_ref1 ty9 (.tmp rfl) (V.cs_2 _ _)) (Zf 4 [58] rfl (fun _ => QW.len_s st9 (.tmp rfl)) (Zf 5 [] rfl (fun _ => QW.move (.tmp rfl)) (Zf 6 [60] rfl (fun _ => QW.index_sl sl27 ty29 rfl (.tmp rfl) .const rfl rfl) ?_)))))))))
    refine Zf 7 [61] rfl (fun _ => QW.field_ref fo29_4 (.tmp rfl) rfl) (Zf 8 [62] rfl (fun _ => QW.load_ref1 ty27 (.tmp rfl) (V.cs_4 _ _)) (Zf 9 [63] rfl (fun _ => QW.len_slE sl27 (.tmp rfl) wl) (Zf 10 [59, 64] rfl (fun _ => QW.add (.tmp rfl) (.tmp rfl) (w64 (by omega))) (Zf 11 [65] rfl (fun _ => QW.call gofn102 (.cons (.tmp rfl) .nil) (ofInt_ok _ (by omega))) (Zf 12 [66] rfl (fun _ => QW.move (.tmp rfl)) (Zf 13 [54] rfl (fun _ => QW.extract (.tmp rfl) rfl) (Zf 14 [54] rfl (fun _ => QW.extract (.tmp rfl) rfl) (Zf 15 [67] rfl (fun _ => QW.assign (.tmp rfl)) (Zf 16 [68] rfl (fun _ => QW.assign (.tmp rfl)) ?_)))))))))
    refine JX.fin (by kernel_rfl) (by kernel_rfl) fun bs_ => ?_
    refine QX.conv (by (try simp only [vlF, bxF, tkM, lvM, Flt.val, Flt.bx, nx, nl, stepsO, valO, nthO, curO, mrg, AV.cellsOf, splice_zero, splice_succ, Nat.reduceAdd]); rfl) ?_
    exact thenQ.n (Zs (Zq rfl (QW.move (.tmp rfl)) (Zq rfl (QW.call gofn47 (.cons (.tmp rfl) .nil) (nof_ok _)) (JL.store_boxF 0 ty29 (.tmp rfl) rfl (.tmp rfl) rfl rfl rfl rfl (Zn (J.ret (blkQ.r (thenQ.r (Zr [.k, .k] (RetEv.one rfl (REv.cell 0 ty29 rfl rfl rfl rfl lr)) rfl (PlR.ok ((pe10 t a).trans (if_neg (by simp at k53; omega)))))))))))))
  have n10 : ¬ o = 10 := by simpa using c3
  refine Zs (Zq rfl (QW.eql (.tmp rfl) .const) (Zq rfl (QW.assign (.tmp rfl)) (Zn ?_)))
  refine J.cond (.tmp rfl) (fun c4 => ?_) (fun c4 => ?_)
  · skip
    obtain rfl : o = 23 := by simpa using c4
    refine Zs (Zq rfl (QW.move (.tmp rfl)) (Zq rfl (QW.build (idx := [0, 4]) pl29 z29 rfl (.cons .const (.cons (.tmp rfl) .nil)) rfl rfl rfl rfl) ?_))
    refine JL.callPF [] gofn70 rfl Lent.nil (fun _ => (.cons (Ev.le (.tmp rfl) (.aggL (.cons lr (.cons lr (.cons lr (.cons (.nil false false _) (.cons lr .nil))))))) .nil)) (made_ok (fr := false) (v := .li l) Vc.self (li_wf hl hn8)) (.inl rfl) (fun k75 x75 o75 h75 => ?_) (fun k75 => ?_)
    rotate_left
    · skip
      refine thenQ.p (blkQ.p (thenQ.p ?_))
      exact ⟨_, selP [.k, .k] _, _, rfl, rfl, sel_perm [.k, .k] _, PlR.er (c := 84) ((pe23 t l).trans (if_neg k75)) (by decide)⟩
    obtain ⟨rfl, rfl⟩ := h75
    exact JL.store_boxF 0 ty29 (.tmp rfl) rfl (.tmp rfl) rfl rfl rfl rfl (Zn (J.ret (blkQ.r (thenQ.r (Zr [.k, .k] (RetEv.one rfl (REv.cell 0 ty29 rfl rfl rfl rfl lr)) rfl (PlR.ok (v := .li l) ((pe23 t l).trans (if_pos k75))))))))
  have n23 : ¬ o = 23 := by simpa using c4
  refine Zs (Zq rfl (QW.eql (.tmp rfl) .const) (Zq rfl (QW.assign (.tmp rfl)) (Zn ?_)))
  refine J.cond (.tmp rfl) (fun c5 => ?_) (fun c5 => ?_)
  · skip
    obtain rfl : o = 24 := by simpa using c5
    obtain ⟨a, b, rfl⟩ := two_of (l := l) (by omega)
    have ha := hl a (by simp)
    have hb := hl b (by simp)
    have ha32 := ha.len
    refine Zs (Zq rfl (QW.move (.tmp rfl)) (Zq rfl (QW.buildSlice (idx := [0]) (xs := intsAV [4]) sl130 el3 z3 rfl (.cons .const .nil) rfl rfl rfl rfl rfl rfl rfl rfl rfl) ?_))
    refine JL.callPF [] gofn71 rfl Lent.nil (fun _ => (.cons (.tmp rfl) (.cons (.tmp rfl) .nil))) (kinds_ok _ [4] (by simp) (by simp)) (.inl rfl) (fun k80 x80 o80 h80 => ?_) (fun k80 => ?_)
    rotate_left
    · skip
      refine thenQ.p (blkQ.p (thenQ.p ?_))
      exact ⟨_, selP [.k, .k] _, _, rfl, rfl, sel_perm [.k, .k] _, PlR.er (c := 81) ((pe24 t a b).trans (if_pos (by simpa [kindsB] using k80))) (by decide)⟩
    obtain ⟨rfl, rfl⟩ := h80
    refine Zn (J.seq (J.regionX mixed (Zf 0 [] rfl (fun _ => QW.move (.tmp rfl)) (Zf 1 [82] rfl (fun _ => QW.index_sl sl27 ty29 rfl (.tmp rfl) .const rfl rfl) (Zf 2 [83] rfl (fun _ => QW.load_ref ty29 (.tmp rfl) (take_at0 vl rfl) vl) (Zf 3 [] rfl (fun _ => QW.move (.tmp rfl)) (Zf 4 [85] rfl (fun _ => QW.index_sl sl27 ty29 rfl (.tmp rfl) .const rfl rfl) (Zf 5 [86] rfl (fun _ => QW.field_ref fo29_4 (.tmp rfl) rfl) (Zf 6 [87] rfl (fun _ => QW.load_ref1 ty27 (.tmp rfl) (V.cs_4 _ _)) ?_)))))))))
    refine Zf 7 [88] rfl (fun _ => QW.len_slE sl27 (.tmp rfl) wl) (Zf 8 [89] rfl (fun _ => QW.build (idx := [2]) pl120 z120 rfl (.cons (.tmp rfl) .nil) rfl rfl rfl rfl) (Zf 9 [90] rfl (fun _ => QW.buildSlice (idx := [0]) (xs := StT.css [⟨false, [], (a.items.length : Int)⟩]) sl121 el120 z120 rfl (.cons (.tmp rfl) .nil) rfl rfl rfl rfl rfl rfl rfl rfl rfl) (Zf 10 [] rfl (fun _ => QW.move (.tmp rfl)) (Zf 11 [92] rfl (fun _ => QW.index_sl sl27 ty29 rfl (.tmp rfl) .const rfl rfl) (Zf 12 [93] rfl (fun _ => QW.load_ref ty29 (.tmp rfl) (take_at0 vl rfl) vl) (Zf 13 [84, 91, 94] rfl (fun _ => QW.call gofn103 (.cons (.tmp rfl) (.cons (.tmp rfl) (.cons (.tmp rfl) .nil))) (set_ok (v := a) (x := b) (p := [⟨false, [], a.items.length⟩]) Vc.self Vc.self ha.wf hb.wf (step_wf ⟨by unfold reach; simp, by show (-9223372036854775808 : Int) ≤ (a.items.length : Int) ∧ (a.items.length : Int) ≤ 9223372036854775807; omega⟩))) ?_))))))
    refine Zf 14 [95] rfl (fun _ => QW.move (.tmp rfl)) (Zf 15 [81] rfl (fun _ => QW.extract (.tmp rfl) rfl) (Zf 16 [81] rfl (fun _ => QW.extract (.tmp rfl) rfl) (JX.a 17 rfl (AllocOp.mk z29 rfl) rfl rfl rfl rfl rfl (JX.one 18 [true, false, true, true, true, true, true, true, true, true, true, true, true, true, true, true, true, true] rfl (by kernel_rfl) (by kernel_rfl) rfl rfl (by kernel_rfl) rfl fun bs18_ pe_ ex_ => ?_))))
    refine JL.conv (by (try simp only [vlF, bxF, tkM, lvM, Flt.val, Flt.bx, nx, nl, stepsO, valO, nthO, curO, mrg, AV.cellsOf, splice_zero, splice_succ, Nat.reduceAdd]); rfl) ?_
    refine JL.store_boxF 2 ty29 (.tmp rfl) rfl (.tmp rfl) rfl vl rfl rfl (JL.nil ?_)
    refine thenQ.n ⟨[], _, rfl, rfl, rfl, rfl, rfl, Reown.tkN 3 rfl, trivial, ⟨trivial, trivial⟩, ?_⟩
    refine JX.conv (S' := [18, 17, 15, 14, 13, 12, 11, 10, 9, 8, 7, 6, 5, 4, 3, 2, 1, 0]) rfl (by (try simp only [lvM]); rfl) (by (try simp only [vlF, bxF, tkM, lvM, Flt.val, Flt.bx, nx, nl, stepsO, valO, nthO, curO, mrg, AV.cellsOf, splice_zero, splice_succ, Nat.reduceAdd]); rfl) ?_
    refine Zf 19 [97] rfl (fun _ => QW.assign (.tmp rfl)) (JX.fin (by kernel_rfl) (by kernel_rfl) fun bs_ => ?_)
    refine QX.conv (by (try simp only [vlF, bxF, tkM, lvM, Flt.val, Flt.bx, nx, nl, stepsO, valO, nthO, curO, mrg, AV.cellsOf, splice_zero, splice_succ, Nat.reduceAdd]); rfl) ?_
    refine thenQ.n (Zs (Zq rfl (QW.move (.tmp rfl)) (Zq rfl (QW.eql (.tmp rfl) .const) ?_)))
    refine JL.callPF [] gofn45 rfl Lent.nil (fun _ => (.cons (.tmp rfl) (.cons .const .nil))) (nd_ok _ _) (.inl rfl) (fun k100 x100 o100 h100 => ?_) (fun k100 => ?_)
    rotate_left
    · skip
      refine thenQ.p (blkQ.p (thenQ.p ?_))
      exact ⟨_, selP [.k, .k, .k] _, _, rfl, rfl, sel_perm [.k, .k, .k] _, PlR.er (c := 84) (by rw [pe24, if_neg (by simpa [kindsB] using k80)]; exact setE_er (by simpa using k100)) (by decide)⟩
    obtain ⟨rfl, rfl⟩ := h100
    exact Zn (Zs (Zq rfl (QW.load_box 2 ty29 (.tmp rfl) rfl (take_at vl rfl) vl) (JL.store_boxF 0 ty29 (.tmp rfl) rfl (.tmp rfl) rfl vl rfl rfl (Zn (J.ret (blkQ.r (thenQ.r (Zr [.k, .k, .k] (RetEv.one rfl (REv.cell 0 ty29 rfl rfl (take_at vl rfl) vl (V.le_tf _))) rfl (PlR.ok (by rw [pe24, if_neg (by simpa [kindsB] using k80)]; exact setE_ok (by simpa using k100)))))))))))
  have n24 : ¬ o = 24 := by simpa using c5
  obtain rfl : o = 25 := by omega
  obtain ⟨a, b, rfl⟩ := two_of (l := l) (by omega)
  have ha := hl a (by simp)
  have hb := hl b (by simp)
  refine J.skip (blkQ.n (thenQ.n (Zs (Zq rfl (QW.move (.tmp rfl)) (Zq rfl (QW.buildSlice (idx := [0]) (xs := intsAV [5]) sl130 el3 z3 rfl (.cons .const .nil) rfl rfl rfl rfl rfl rfl rfl rfl rfl) ?_)))))
  refine JL.callPF [] gofn71 rfl Lent.nil (fun _ => (.cons (.tmp rfl) (.cons (.tmp rfl) .nil))) (kinds_ok _ [5] (by simp) (by simp)) (.inl rfl) (fun k104 x104 o104 h104 => ?_) (fun k104 => ?_)
  rotate_left
  · skip
    refine thenQ.p ?_
    exact ⟨_, selP [.k, .k] _, _, rfl, rfl, sel_perm [.k, .k] _, PlR.er (c := 81) ((pe25 t a b).trans (if_pos (by simpa [kindsB] using k104))) (by decide)⟩
  obtain ⟨rfl, rfl⟩ := h104
  refine Zn (J.seq (J.regionX mixed (Zf 0 [] rfl (fun _ => QW.move (.tmp rfl)) (Zf 1 [106] rfl (fun _ => QW.index_sl sl27 ty29 rfl (.tmp rfl) .const rfl rfl) (Zf 2 [107] rfl (fun _ => QW.load_ref ty29 (.tmp rfl) (take_at0 vl rfl) vl) (Zf 3 [] rfl (fun _ => QW.field_ptr fo34_2 (.tmp rfl) rfl) (Zo 4 1 [109] rfl (fun _ ho_ => QW.load_box1 1 ty9 (.tmp rfl) ho_ rfl) (Zf 5 [110] rfl (fun _ => QW.build (idx := [0, 1]) pl120 z120 rfl (.cons .const (.cons (.tmp rfl) .nil)) rfl rfl rfl rfl) (Zf 6 [111] rfl (fun _ => QW.buildSlice (idx := [0]) (xs := StT.css [⟨true, t, 0⟩]) sl121 el120 z120 rfl (.cons (.tmp rfl) .nil) rfl rfl rfl rfl rfl rfl rfl rfl rfl) ?_)))))))))
  refine Zf 7 [] rfl (fun _ => QW.move (.tmp rfl)) (Zf 8 [113] rfl (fun _ => QW.index_sl sl27 ty29 rfl (.tmp rfl) .const rfl rfl) (Zf 9 [114] rfl (fun _ => QW.load_ref ty29 (.tmp rfl) (take_at0 vl rfl) vl) (Zf 10 [108, 112, 115] rfl (fun _ => QW.call gofn103 (.cons (.tmp rfl) (.cons (.tmp rfl) (.cons (.tmp rfl) .nil))) (set_ok (v := a) (x := b) (p := [⟨true, t, 0⟩]) Vc.self Vc.self ha.wf hb.wf (step_wf ⟨ht, show (-9223372036854775808 : Int) ≤ 0 ∧ (0 : Int) ≤ 9223372036854775807 by decide⟩))) ?_)))
  refine Zf 11 [116] rfl (fun _ => QW.move (.tmp rfl)) (Zf 12 [105] rfl (fun _ => QW.extract (.tmp rfl) rfl) (Zf 13 [105] rfl (fun _ => QW.extract (.tmp rfl) rfl) (JX.a 14 rfl (AllocOp.mk z29 rfl) rfl rfl rfl rfl rfl (JX.one 15 [true, false, true, true, true, true, true, true, true, true, true, true, true, true, true] rfl (by kernel_rfl) (by kernel_rfl) rfl rfl (by kernel_rfl) rfl fun bs15_ pe_ ex_ => ?_))))
  refine JL.conv (by (try simp only [vlF, bxF, tkM, lvM, Flt.val, Flt.bx, nx, nl, stepsO, valO, nthO, curO, mrg, AV.cellsOf, splice_zero, splice_succ, Nat.reduceAdd]); rfl) ?_
  refine JL.store_boxF 2 ty29 (.tmp rfl) rfl (.tmp rfl) rfl vl rfl rfl (JL.nil ?_)
  refine thenQ.n ⟨[], _, rfl, rfl, rfl, rfl, rfl, Reown.tkN 3 rfl, trivial, ⟨trivial, trivial⟩, ?_⟩
  refine JX.conv (S' := [15, 14, 12, 11, 10, 9, 8, 7, 6, 5, 4, 3, 2, 1, 0]) rfl (by (try simp only [lvM]); rfl) (by (try simp only [vlF, bxF, tkM, lvM, Flt.val, Flt.bx, nx, nl, stepsO, valO, nthO, curO, mrg, AV.cellsOf, splice_zero, splice_succ, Nat.reduceAdd]); rfl) ?_
  refine Zf 16 [118] rfl (fun _ => QW.assign (.tmp rfl)) (JX.fin (by kernel_rfl) (by kernel_rfl) fun bs_ => ?_)
  refine QX.conv (by (try simp only [vlF, bxF, tkM, lvM, Flt.val, Flt.bx, nx, nl, stepsO, valO, nthO, curO, mrg, AV.cellsOf, splice_zero, splice_succ, Nat.reduceAdd]); rfl) ?_
  refine thenQ.n (Zs (Zq rfl (QW.move (.tmp rfl)) (Zq rfl (QW.eql (.tmp rfl) .const) ?_)))
  refine JL.callPF [] gofn45 rfl Lent.nil (fun _ => (.cons (.tmp rfl) (.cons .const .nil))) (nd_ok _ _) (.inl rfl) (fun k121 x121 o121 h121 => ?_) (fun k121 => ?_)
  rotate_left
  · skip
    refine thenQ.p ?_
    exact ⟨_, selP [.k, .k, .k] _, _, rfl, rfl, sel_perm [.k, .k, .k] _, PlR.er (c := 84) (by rw [pe25, if_neg (by simpa [kindsB] using k104)]; exact setE_er (by simpa using k121)) (by decide)⟩
  obtain ⟨rfl, rfl⟩ := h121
  exact Zn (Zs (Zq rfl (QW.load_box 2 ty29 (.tmp rfl) rfl (take_at vl rfl) vl) (JL.store_boxF 0 ty29 (.tmp rfl) rfl (.tmp rfl) rfl vl rfl rfl (Zn (J.ret (Zr [.k, .k, .k] (RetEv.one rfl (REv.cell 0 ty29 rfl rfl (take_at vl rfl) vl (V.le_tf _))) rfl (PlR.ok (by rw [pe25, if_neg (by simpa [kindsB] using k104)]; exact setE_ok (by simpa using k121)))))))))
end Go.Proofs.YtjhonjdhanlbkaaGreat.J

/- Walks: the page sets a part of a value. -/
namespace Go.Proofs.YtjhonjdhanlbkaaGreat.J
open Go Go.RowKit
set_option maxRecDepth 10000
set_option maxHeartbeats 4000000
def SetR (w : V × Int) : AV → List Own → Prop := fun x o => ∃ kw iw okw oiw, x = .tup [.agg (w.1.raw kw iw), .c (.int .i64 w.2)] ∧ o = [okw, oiw] ∧ VTr w.1 kw iw okw oiw
theorem SetR.no {w : V × Int} {e : Int} (h : w = (.nil, e)) : SetR w (.tup [.agg nilC, .c (.int .i64 e)]) [.grp [], .grp []] := ⟨_, _, _, _, by rw [h]; rfl, rfl, by rw [h]; exact nil_VTr⟩
theorem SetR.yes {w : V × Int} {u : V} {kw iw : Value} {okw oiw : Own} {ys : List AV} {e : Int} (h : w = (u, e)) (hy : ys = u.raw kw iw) (hV : VTr u kw iw okw oiw) : SetR w (.tup [.agg ys, .c (.int .i64 e)]) [okw, oiw] := ⟨kw, iw, okw, oiw, by rw [h, hy], rfl, by rw [h]; exact hV⟩
theorem Reown.hd2 {a b : Own} {c l : List Own} (h : Reown [a, b] c) : Reown (a :: b :: l) (c ++ l) :=
  (Reown.perm (List.perm_append_comm (l₁ := [a, b]) (l₂ := l))).trans ((Reown.left (c := l) h).trans (Reown.perm List.perm_append_comm))
theorem Reown.put (arrI ok3 oi3 ob oa okx oix : Own) : Reown [arrI, ok3, oi3, ob, oa, okx, oix] [.grp [arrI, .grp [ob, .grp [.grp [okx, oix], oa]]]] := by
  refine ⟨fun y => by simp only [fps_cons, fps_nil, fp_grp, List.count_append, List.count_nil]; omega, fun w A h => ?_⟩
  simp only [List.forall_mem_cons, ok_grp, List.not_mem_nil, false_implies, implies_true, and_true] at h ⊢
  obtain ⟨q1, q2, q3, q4, q5, q6, q7⟩ := h
  exact ⟨q1, q4, ⟨q6, q7⟩, q5⟩
theorem Reown.put2 (arrI kids okx oix : Own) : Reown [arrI, kids, okx, oix] [.grp [arrI, .grp [kids, .grp [okx, oix]]]] := by
  refine ⟨fun y => by simp only [fps_cons, fps_nil, fp_grp, List.count_append, List.count_nil]; omega, fun w A h => ?_⟩
  simp only [List.forall_mem_cons, ok_grp, List.not_mem_nil, false_implies, implies_true, and_true] at h ⊢
  exact h
theorem VTr.setAt {u x : V} {kv iv kx ix : Value} {ok ob oa okx oix : Own} {cs : List (List AV)} {u1 u3 : List Value} {i : Nat} (huw : u.wf) (hk1 : kv.oneCell' = true) (hi1 : iv.oneCell' = true) (hks : Tr (.sl true false eStr (keysAV u.keys)) kv ok)
    (hlt : i < u.items.length) (hcl : cs.length = u.items.length) (h5 : ∀ x ∈ cs, x.length = 5) (t1 : TrL (V.css true (u.items.take i)).flatten u1 ob) (t3 : TrL (V.css true (u.items.drop (i + 1))).flatten u3 oa) (f1 : (cs.take i).flatten = u1.map AV.c) (f3 : (cs.drop (i + 1)).flatten = u3.map AV.c)
    (a1 : u1.all (·.oneCell') = true) (a3 : u3.all (·.oneCell') = true) (hx : VTr x kx ix okx oix) : VTr (u.setAt i x) kv iv ok (.grp [.arr iv eV (cs.set i (x.raw kx ix)), .grp [ob, .grp [.grp [okx, oix], oa]]]) := by
  have hclt : i < cs.length := by omega
  have hflat : (cs.set i (x.raw kx ix)).flatten = (u1 ++ (x.vals kx ix ++ u3)).map AV.c := by
    rw [set_parts hclt, List.flatten_append, List.flatten_cons, f1, f3, V.raw_eq, List.map_append, List.map_append]
  have h5' : ∀ z ∈ cs.set i (x.raw kx ix), z.length = 5 := fun z hz => (List.mem_or_eq_of_mem_set hz).elim (h5 z) fun e => e ▸ rfl
  have hits : u.items.length * 80 ≤ reach := by obtain ⟨k, b, t, ks, is⟩ := u; exact huw.inv.2.2.2.2.1
  have htl : TrL (V.css true (u.items.set i x)).flatten (u1 ++ (x.vals kx ix ++ u3)) (.grp [ob, .grp [.grp [okx, oix], oa]]) := by
    rw [set_parts hlt, V.css_append, List.flatten_append, V.css, List.flatten_cons]
    exact t1.append (hx.trL.append t3 (.refl _)) (.refl _)
  have hIt : Tr (.sl true false eV (V.css true (u.items.set i x))) iv (.grp [.arr iv eV (cs.set i (x.raw kx ix)), .grp [ob, .grp [.grp [okx, oix], oa]]]) :=
    items_tr hflat (by simp [hcl]) h5' (by rw [List.all_append, List.all_append, a1, hx.ones, a3]; rfl) (by simpa using hits) htl
  exact ⟨hk1, hi1, hks, hIt⟩
theorem ins_trX {is : List V} {x : V} {kx ix : Value} {okx oix : Own} {cs : List (List AV)} {us : List Value} {o : Own} {m : Nat} {v : Value} (hm : m ≤ is.length) (hl : cs.length = is.length) (h3 : ∀ x ∈ cs, x.length = 5) (hf : cs.flatten = us.map AV.c) (h1 : us.all (·.oneCell') = true) (h : TrL (V.css true is).flatten us o) (h6 : (is.length + 1) * 80 ≤ reach) (hx : VTr x kx ix okx oix) :
    Tr (.sl true false eV (V.css true (is.take m ++ [x] ++ is.drop m))) v (.grp [.arr v eV (cs.take m ++ [x.raw kx ix] ++ cs.drop m), .grp [o, .grp [okx, oix]]]) := by
  have hsp : (V.css true is).flatten = (V.css true (is.take m)).flatten ++ (V.css true (is.drop m)).flatten := by
    rw [← List.flatten_append, ← V.css_append, List.take_append_drop]
  rw [hsp] at h
  obtain ⟨u1, u2, o1, o2, rfl, g1, g2, g3⟩ := h.split
  rw [List.all_append, Bool.and_eq_true] at h1
  have hlen : (cs.take m).flatten.length = u1.length := by
    rw [← g1.length, flatten_length (sz := 5) _ (fun x hx => h3 x (List.mem_of_mem_take hx)), flatten_length (sz := 5) _ (V.css_sz true _), V.css_length, List.length_take, List.length_take, hl]
  have hf2 : (cs.take m).flatten ++ (cs.drop m).flatten = u1.map AV.c ++ u2.map AV.c := by
    rw [← List.flatten_append, List.take_append_drop, hf, List.map_append]
  obtain ⟨k1, k2⟩ := List.append_inj hf2 (by simpa using hlen)
  have htl : TrL (V.css true (is.take m ++ [x] ++ is.drop m)).flatten (u1 ++ x.vals kx ix ++ u2) (.grp [o, .grp [okx, oix]]) := by
    rw [V.css_append, V.css_append, List.flatten_append, List.flatten_append]
    have hn : (V.css true [x]).flatten = x.cs true := by simp [V.css]
    rw [hn]
    refine (g1.append hx.trL (.refl _)).append g2 ?_
    refine OwnEq.trans (OwnEq.nest [o1, .grp [okx, oix]] [o2]) ((OwnEq.grp_perm (l' := [o1, o2, .grp [okx, oix]]) (List.Perm.cons _ (List.Perm.swap _ _ _))).trans ?_)
    exact (OwnEq.nest [o1, o2] [.grp [okx, oix]]).symm.trans (.cons g3 (.refl _))
  refine items_tr (us := u1 ++ x.vals kx ix ++ u2) ?_ ?_ ?_ ?_ ?_ htl
  · rw [List.flatten_append, List.flatten_append, k1, k2, List.map_append, List.map_append]
    simp [V.raw_eq]
  · simp only [List.length_append, List.length_take, List.length_drop, List.length_singleton]; omega
  · intro z hz
    simp only [List.mem_append, List.mem_singleton] at hz
    rcases hz with (hz | rfl) | hz
    · exact h3 z (List.mem_of_mem_take hz)
    · rfl
    · exact h3 z (List.mem_of_mem_drop hz)
  · rw [List.all_append, List.all_append, h1.1, h1.2, hx.ones]; rfl
  · simp only [List.length_append, List.length_take, List.length_drop, List.length_singleton]; unfold reach at h6 ⊢; omega
theorem Reown.put3 (arrK arrI kids okx oix keys items : Own) : Reown [arrK, arrI, kids, okx, oix, keys, items] [keys, .grp [items, .grp [kids, .grp [okx, oix]]]] := by
  refine ⟨fun y => by simp only [fps_cons, fps_nil, fp_grp, List.count_append, List.count_nil]; omega, fun w A h => ?_⟩
  simp only [List.forall_mem_cons, ok_grp, List.not_mem_nil, false_implies, implies_true, and_true] at h ⊢
  obtain ⟨q1, q2, q3, q4, q5, q6, q7⟩ := h
  exact ⟨q6, q7, q3, q4, q5⟩
theorem fnd_key {v : V} {s : StT} {i : Nat} (h : v.fnd s = (i, 71)) (hp : partOk v = true) (hk : s.isKey = true) (h5 : v.kind = 5) : ∀ j (hj : j < v.keys.length), (Op.bytesLess s.key v.keys[j] = true ↔ i ≤ j) := by
  have hs := keysOk_sorted (partOk_rec hp h5).2
  unfold V.fnd at h
  rw [if_pos hk, if_pos h5] at h
  have hi : low v.keys s.key = i := congrArg Prod.fst h
  have hn : v.keys[low v.keys s.key]? ≠ some s.key := fun hh => by
    have := congrArg Prod.snd h
    simp only [if_pos hh] at this
    cases this
  intro j hj
  constructor
  · intro hl
    rcases Nat.lt_or_ge j i with h1 | h1
    · have := low_lt hj (by omega : j < low v.keys s.key)
      rw [less_asym this] at hl; cases hl
    · exact h1
  · intro h1
    have h2 := low_ge hs hj (s := s.key) (by omega)
    rcases less_tri v.keys[j] s.key with h3 | h3 | h3
    · rw [h3] at h2; cases h2
    · have := low_eq hs hj h3
      rw [this] at hn
      exact absurd (by rw [List.getElem?_eq_getElem hj, h3]) hn
    · exact h3
def insL {α : Type} (l : List α) (x : α) (m j : Nat) : List α := if m < j then l.take m ++ [x] ++ (l.take j).drop m else l.take j
def insP {α : Type} (l : List α) (x : α) (m j : Nat) : List α := if m ≤ j then l.take m ++ [x] ++ (l.take j).drop m else l.take j
theorem insP_ne {α : Type} {l : List α} {x : α} {m j : Nat} (h : m ≠ j) : insL l x m j = insP l x m j := by
  unfold insL insP
  by_cases hm : m < j
  · rw [if_pos hm, if_pos (by omega)]
  · rw [if_neg hm, if_neg (by omega)]
theorem insP_at {α : Type} {l : List α} {x : α} {m : Nat} (h : m ≤ l.length) : insL l x m m ++ [x] = insP l x m m := by
  unfold insL insP
  rw [if_neg (by omega), if_pos (Nat.le_refl _), List.drop_eq_nil_of_le (by simp; omega), List.append_nil]
theorem insL_next {α : Type} {l : List α} {x : α} {m j : Nat} (h : j < l.length) : insP l x m j ++ [l[j]] = insL l x m (j + 1) := by
  unfold insL insP
  by_cases hm : m ≤ j
  · rw [if_pos hm, if_pos (by omega), List.take_succ_eq_append_getElem h, List.drop_append_of_le_length (by simp; omega)]; simp
  · rw [if_neg hm, if_neg (by omega), List.take_succ_eq_append_getElem h]
theorem insP_all {α : Type} {l : List α} {x : α} {m n : Nat} (h : m ≤ n) (hn : n = l.length) : insP l x m n = l.take m ++ [x] ++ l.drop m := by
  unfold insP
  rw [if_pos h, hn, List.take_length]
theorem insL_len {α : Type} (l : List α) (x : α) (m j : Nat) : (insL l x m j).length ≤ l.length + 1 := by
  unfold insL
  split <;> (simp; try omega)
theorem insP_len {α : Type} (l : List α) (x : α) (m j : Nat) : (insP l x m j).length ≤ l.length + 1 := by
  unfold insP
  split <;> (simp; try omega)
theorem keysAV_snoc (l : List Str) (s : Str) : keysAV l ++ [[.c (str s)]] = keysAV (l ++ [s]) := by simp [keysAV]
theorem plc_eq {v : V} {s : StT} {i : Nat} {e : Int} (h : v.fnd s = (i, e)) : plcAV v s = .tup [.c (.int .i64 (if e = 0 then (i : Int) else -1)), .c (.int .i64 e)] := by rw [plcAV, h]
theorem plcAt {fr : Bool} {v : V} {s : StT} {i : Nat} {e : Int} (h : v.fnd s = (i, e)) (hp : partOk v = true) (hsw : s.wf) : Fn Tryz.prog 139 [.agg (v.cs fr), .agg s.cs] (.tup [.c (.int .i64 (if e = 0 then (i : Int) else -1)), .c (.int .i64 e)]) := by
  have := place_ok (fr := fr) (v := v) (s := s) Vc.self Sc.self hp hsw
  rwa [plc_eq h] at this
theorem V.put_of {v x : V} {s : StT} {i : Nat} {e : Int} (h : v.fnd s = (i, e)) : v.put s x = if e = 0 then (v.setAt i x, 0) else if (v.grw s i e).2 = 0 then (v.ins s (v.grw s i e).1 x, 0) else (.nil, (v.grw s i e).2) := by unfold V.put; simp only [h]
theorem put_ok {v x : V} {s : StT} {kv iv kx ix : Value} {ok oi okx oix : Own} (hV : VTr v kv iv ok oi) (hX : VTr x kx ix okx oix) (hf : v.Fine) (hw : v.wf) (hsw : s.wf) : AC Tryz.prog 138 [ok, oi, okx, oix] [.agg (v.raw kv iv), .agg s.cs, .agg (x.raw kx ix)] (RetR (SetR (v.put s x))) := by
  have hp := hf.part
  obtain ⟨l1, l2⟩ := partOk_len hp
  obtain ⟨i, e, hie⟩ : ∃ i e, v.fnd s = (i, e) := ⟨_, _, rfl⟩
  have hpo := V.put_of (x := x) hie
  have hkr : v.keys.length * 16 ≤ reach := by unfold reach; omega
  refine AC.of_J Tryz.func138 rfl Tryz.ntmps138 rfl fun w0 A0 => ?_
  refine Zs (JL.box_agg (.tmp rfl) rfl fun b3 => JL.box_agg (.tmp rfl) rfl fun b4 => JL.box_agg (.tmp rfl) rfl fun b5 => JL.alloc z29 rfl rfl fun b6 => Zq rfl (QW.assign .const) (Zn (Zs (Zq rfl (QW.load_box 3 ty29 (.tmp rfl) rfl rfl rfl) (Zq rfl (QW.load_box 2 ty120 (.tmp rfl) rfl rfl rfl) ?_)))))
  refine Zq rfl (QW.callLF [.k, .k, .k, .k, .l, .l] gofn139 (Lent.cons (hV.lentK) (Lent.cons (hV.lentI) Lent.nil)) rfl rfl (fun _ => (.cons (Ev.le (.tmp rfl) (V.raw_le (by simp) (by simp))) (.cons (.tmp rfl) .nil))) (plcAt (fr := false) hie hp hsw) (.tup (FlL.cons (.c _) (FlL.cons (.c _) .nil)))) ?_
  refine Zq rfl (QW.move (.tmp rfl)) (Zq rfl (QW.extract (.tmp rfl) rfl) (Zq rfl (QW.extract (.tmp rfl) rfl) (Zq rfl (QW.assign (.tmp rfl)) (Zq rfl (QW.assign (.tmp rfl)) (Zn (J.seq (J.block (Zs (Zq rfl (QW.move (.tmp rfl)) ?_)))))))))
  refine Zq rfl (QW.eql (.tmp rfl) .const) (Zq rfl (QW.assign (.tmp rfl)) (Zn ?_))
  refine J.cond (.tmp rfl) (fun c1 => ?_) (fun c1 => ?_)
  · skip
    have he0 : e = 0 := by simpa using c1
    have hil : i < v.items.length := by have := V.fnd_lt (v := v) (s := s) hp (by rw [hie]; exact he0); rwa [hie] at this
    refine J.seq ?_
    obtain ⟨ck, uk, o1, p1, p2, p3, p4, p5, p6⟩ := hV.ks.inv
    obtain ⟨ci, ui, o2, q1, q2, q3, q4, q5, q6⟩ := hV.is.inv
    obtain rfl := keys_cs p1 p3 p5
    rw [V.css_length] at q2
    refine J.reown (Reown.cons (Reown.cons (Reown.cons (Reown.cons (Reown.hd2 (Reown.spoil p6 q6)))))) ?_
    obtain ⟨kv3, iv3, ok3, oi3, ob, oa, u1, u3, e1, e3, e4, e5, e6, e7, e8, e9, e10⟩ := kids_at hil q2 q3 q1 q4 q5
    refine J.reown (Reown.cons (Reown.cons (Reown.cons (Reown.cons (Reown.cons (Reown.cons (Reown.hd e10))))))) (J.region_lit (Zq rfl (QW.field_ptr fo29_4 (.tmp rfl) rfl) (Zq rfl (QW.load_box1 3 ty27 (.tmp rfl) rfl rfl) (Zq rfl (QW.conv (QW.move (.tmp rfl)) (by rw [if_pos he0])) ?_))))
    refine Zq rfl (QW.load_box 1 ty29 (.tmp rfl) rfl rfl rfl) (Zq rfl (QW.index_arr 5 sl27 ty29 rfl (.tmp rfl) rfl (.tmp rfl) rfl (by omega) rfl) (JL.store_gp 5 ty29 (.tmp rfl) rfl e1 rfl (.tmp rfl) rfl rfl rfl (congrArg (List.set _ _) (splice_all rfl)) rfl (Zn (J.seq (J.reown (Reown.cons (Reown.cons (Reown.cons (Reown.cons (Reown.cons (Reown.put _ _ _ _ _ _ _)))))) (J.region_lit (Zq rfl (QW.load_box 3 ty29 (.tmp rfl) rfl rfl rfl) (JL.store_boxF 0 ty29 (.tmp rfl) rfl (.tmp rfl) rfl rfl rfl rfl (Zq rfl (QW.assign .const) ?_)))))))))
    exact Zn (J.ret (blkQ.r (thenQ.r (Zr [.k, .k, .k, .k, .p, .p] (RetEv.two rfl (REv.cell 0 ty29 rfl rfl rfl rfl lr) (REv.tmp rfl lr)) rfl ⟨_, rfl, SetR.yes (u := v.setAt i x) (e := 0) (kw := kv) (iw := iv) (by rw [hpo, if_pos he0]) rfl (VTr.setAt hw hV.k1 hV.i1 (keys_tr hkr) hil q2 q3 e4 e5 e6 e7 e8 e9 hX)⟩))))
  have he0 : e ≠ 0 := by simpa using c1
  rw [if_neg he0] at hpo
  have hcs := (fnd_cases hie).resolve_left he0
  refine J.seq ?_
  obtain ⟨ck, uk, o1, p1, p2, p3, p4, p5, p6⟩ := hV.ks.inv
  obtain ⟨ci, ui, o2, q1, q2, q3, q4, q5, q6⟩ := hV.is.inv
  obtain rfl := keys_cs p1 p3 p5
  rw [V.css_length] at q2
  refine J.reown (Reown.cons (Reown.cons (Reown.cons (Reown.cons (Reown.hd2 (Reown.spoil p6 q6)))))) (J.region_lit (Zq rfl (QW.move (.tmp rfl)) (Zq rfl (QW.eql (.tmp rfl) .const) (Zq rfl (QW.move (.tmp rfl)) (Zg rfl (fun hg => (QW.field_ptr fo120_2 (.tmp rfl) rfl)) (Zg rfl (fun hg => (QW.load_box1 2 ty3 (.when rfl hg) rfl rfl)) (Zg rfl (fun hg => (QW.field_ptr fo29_4 (.tmp rfl) rfl)) (Zg rfl (fun hg => (QW.load_box1 3 ty27 (.when rfl hg) rfl rfl)) (Zg rfl (fun hg => (QW.len_arr 5 sl27 (.when rfl hg) rfl)) ?_)))))))))
  refine Zg rfl (fun hg => (QW.eql (.when rfl hg) (.when rfl hg))) (Zq rfl (QW.pick_and (.tmp rfl) (.tmp rfl)) (Zq rfl (QW.assign (.tmp rfl)) (Zn ?_)))
  refine J.cond (.tmp rfl) (fun c2 => ?_) (fun c2 => ?_)
  · skip
    have ht2 : e = 82 ∧ s.index = (v.items.length : Int) := by simpa [q2] using c2
    refine J.seq (Zs (Zq rfl (QW.field_ptr fo29_4 (.tmp rfl) rfl) (Zq rfl (QW.load_box1 3 ty27 (.tmp rfl) rfl rfl) (Zq rfl (QW.len_arr 5 sl27 (.tmp rfl) rfl) (Zq rfl (QW.geq (.tmp rfl) .const) (Zn ?_))))))
    refine J.cond (.tmp rfl) (fun c3 => ?_) (fun c3 => ?_)
    · skip
      have h32 : 32 ≤ v.items.length := by (simp [q2] at c3; omega)
      refine J.seq (J.reown (Reown.nilGrpE _) (J.reown (Reown.nilGrpE _) (J.region_lit (Zq rfl (QW.build (idx := []) pl29 z29 rfl .nil rfl rfl rfl rfl) (JL.store_boxF 0 ty29 (.tmp rfl) rfl (.tmp rfl) rfl rfl rfl rfl (Zq rfl (QW.assign .const) (Zn (J.ret (thenQ.r ?_)))))))))
      exact blkQ.r (thenQ.r (Zr [.k, .k, .k, .k, .k, .k, .k, .k, .k, .p, .p] (RetEv.two rfl (REv.cell 0 ty29 rfl rfl rfl rfl lr) (REv.tmp rfl lr)) rfl ⟨_, rfl, SetR.no (e := 3) (by rw [hpo]; unfold V.grw; simp [ht2.1, ht2.2, h32])⟩))
    have h32 : ¬ 32 ≤ v.items.length := by (simp [q2] at c3; omega)
    refine Zk (Zs (Zq rfl (QW.field_ptr fo29_4 (.tmp rfl) rfl) (Zq rfl (QW.load_box1 3 ty27 (.tmp rfl) rfl rfl) (Zq rfl (QW.load_box 1 ty29 (.tmp rfl) rfl rfl rfl) (Zq rfl (QW.buildSlice (idx := [0]) (xs := [x.raw kx ix]) sl27 el29 z29 rfl (.cons (.tmp rfl) .nil) rfl rfl rfl rfl rfl rfl rfl rfl rfl) (JL.append 5 sl27 el29 rfl (.tmp rfl) rfl (srcA_sl sl27 (.tmp rfl)) (by simp [q2]; unfold reach; omega) rfl fun v49 => ?_))))))
    refine Zq rfl (QW.field_ptr fo29_4 (.tmp rfl) rfl) (JL.isSlice 5 rfl fun hs49 => JL.store_box 3 ty27 (.tmp rfl) rfl (.tmp rfl) (by assumption) rfl rfl rfl rfl ?_)
    refine Zn (J.seq ?_)
    have hnk : s.isKey = false := by (rcases hcs with h | h | h; (exact absurd (h.1.symm.trans ht2.1) (by decide)); (exact h.2.1); (exact absurd (h.1.symm.trans ht2.1) (by decide)))
    have hcc : ci.take v.items.length ++ [x.raw kx ix] ++ ci.drop v.items.length = ci ++ [x.raw kx ix] := by rw [← q2, List.take_length, List.drop_length, List.append_nil]
    exact J.reown (Reown.cons (Reown.cons (Reown.cons (Reown.cons (Reown.cons (Reown.put2 _ _ _ _)))))) (J.region_lit (Zq rfl (QW.load_box 3 ty29 (.tmp rfl) rfl rfl rfl) (JL.store_boxF 0 ty29 (.tmp rfl) rfl (.tmp rfl) rfl rfl rfl rfl (Zq rfl (QW.assign .const) (Zn (J.ret (blkQ.r (thenQ.r (Zr [.k, .k, .k, .k, .p, .p] (RetEv.two rfl (REv.cell 0 ty29 rfl rfl rfl rfl lr) (REv.tmp rfl lr)) rfl ⟨_, rfl, SetR.yes (u := v.ins s v.items.length x) (e := 0) (kw := kv) (iw := v49) (by rw [hpo]; unfold V.grw; simp [ht2.1, ht2.2, h32]) rfl ⟨hV.k1, hs49, by (rw [show (v.ins s v.items.length x).keys = v.keys from if_neg (by simp [hnk])]; exact keys_tr hkr), hcc ▸ ins_trX (Nat.le_refl _) q2 q3 q1 q4 q5 (by unfold reach; omega) hX⟩⟩)))))))))
  have hf2 : ¬ (e = 82 ∧ s.index = (v.items.length : Int)) := by intro hh; simp [hh.1, hh.2, q2] at c2
  refine Zs (Zq rfl (QW.move (.tmp rfl)) (Zq rfl (QW.neq (.tmp rfl) .const) (Zq rfl (QW.assign (.tmp rfl)) (Zn ?_))))
  refine J.cond (.tmp rfl) (fun c3 => ?_) (fun c3 => ?_)
  · skip
    have h71 : e ≠ 71 := by simpa using c3
    refine J.seq (J.reown (Reown.nilGrpE _) (J.reown (Reown.nilGrpE _) (J.region_lit (Zq rfl (QW.build (idx := []) pl29 z29 rfl .nil rfl rfl rfl rfl) (Zq rfl (QW.move (.tmp rfl)) (JL.store_boxF 0 ty29 (.tmp rfl) rfl (.tmp rfl) rfl rfl rfl rfl (Zq rfl (QW.assign (.tmp rfl)) (Zn (J.ret ?_)))))))))
    exact blkQ.r (thenQ.r (Zr [.k, .k, .k, .k, .k, .k, .k, .k, .k, .p, .p] (RetEv.two rfl (REv.cell 0 ty29 rfl rfl rfl rfl lr) (REv.tmp rfl lr)) rfl ⟨_, rfl, SetR.no (e := e) (by rw [hpo, show v.grw s i e = (0, e) by (unfold V.grw; rw [if_neg (fun h => h71 h.1), if_neg hf2, if_pos h71])]; simp [he0])⟩))
  have h71 : e = 71 := by simpa using c3
  have h5 : s.isKey = true ∧ v.kind = 5 ∧ i ≤ v.keys.length := by
    rcases hcs with h | h | h
    · exact h.2
    · exact absurd (h.1.symm.trans h71) (by decide)
    · exact absurd (h.1.symm.trans h71) (by decide)
  have hkl := (partOk_rec hp h5.2.1).1
  refine Zs (Zq rfl (QW.field_ptr fo120_1 (.tmp rfl) rfl) (Zq rfl (QW.load_box1 2 ty9 (.tmp rfl) rfl rfl) (Zq rfl (QW.call gofn63 (.cons (.tmp rfl) .nil) (rkey_ok _)) (Zq rfl (QW.not (.tmp rfl)) (Zq rfl (QW.assign (.tmp rfl)) (Zn ?_))))))
  refine J.cond (.tmp rfl) (fun c4 => ?_) (fun c4 => ?_)
  · skip
    have hko : keyOk s.key = false := by simpa using c4
    refine J.seq (J.reown (Reown.nilGrpE _) (J.reown (Reown.nilGrpE _) (J.region_lit (Zq rfl (QW.build (idx := []) pl29 z29 rfl .nil rfl rfl rfl rfl) (JL.store_boxF 0 ty29 (.tmp rfl) rfl (.tmp rfl) rfl rfl rfl rfl (Zq rfl (QW.assign .const) (Zn (J.ret (blkQ.r ?_)))))))))
    exact thenQ.r (Zr [.k, .k, .k, .k, .k, .k, .k, .k, .k, .p, .p] (RetEv.two rfl (REv.cell 0 ty29 rfl rfl rfl rfl lr) (REv.tmp rfl lr)) rfl ⟨_, rfl, SetR.no (e := 31) (by rw [hpo]; unfold V.grw; simp [h71, hko])⟩)
  have hko : keyOk s.key = true := by simpa using c4
  refine Zs (Zq rfl (QW.field_ptr fo29_4 (.tmp rfl) rfl) (Zq rfl (QW.load_box1 3 ty27 (.tmp rfl) rfl rfl) (Zq rfl (QW.len_arr 5 sl27 (.tmp rfl) rfl) (Zq rfl (QW.geq (.tmp rfl) .const) (Zq rfl (QW.assign (.tmp rfl)) (Zn ?_))))))
  refine J.cond (.tmp rfl) (fun c5 => ?_) (fun c5 => ?_)
  · skip
    have h32 : 32 ≤ v.items.length := by (simp [q2] at c5; omega)
    refine J.seq (J.reown (Reown.nilGrpE _) (J.reown (Reown.nilGrpE _) (J.region_lit (Zq rfl (QW.build (idx := []) pl29 z29 rfl .nil rfl rfl rfl rfl) (JL.store_boxF 0 ty29 (.tmp rfl) rfl (.tmp rfl) rfl rfl rfl rfl (Zq rfl (QW.assign .const) (Zn (J.ret (blkQ.r ?_)))))))))
    exact thenQ.r (Zr [.k, .k, .k, .k, .k, .k, .k, .k, .k, .p, .p] (RetEv.two rfl (REv.cell 0 ty29 rfl rfl rfl rfl lr) (REv.tmp rfl lr)) rfl ⟨_, rfl, SetR.no (e := 3) (by rw [hpo]; unfold V.grw; simp [h71, hko, h32])⟩)
  have h32 : ¬ 32 ≤ v.items.length := by (simp [q2] at c5; omega)
  refine J.skip (blkQ.n (thenQ.n (Zs (Zq rfl (QW.assign .const) (Zn (Zs (Zq rfl (QW.assign .const) (Zn (Zs ?_)))))))))
  refine Zq rfl (QW.assign .const) (Zn (J.seq (Zs (Zq rfl (QW.assign .const) (Zn (J.block ?_))))))
  have hlw := fnd_key (h71 ▸ hie) hp h5.1 h5.2.1
  refine J.reown (Reown.nilArrE eStr _) (J.reown (Reown.nilArrE eV _) (J.loopK (ι := Nat × Value × Value) [3, 4, 5, 6, 7] (fun ⟨j, vk, vi⟩ => [(13, .c (.int .i64 (j : Int))), (10, .c vk), (11, .c vi), (12, .c (.bool (decide (i < j))))]) (fun ⟨j, vk, vi⟩ oo => List.set (List.set oo 9 (.arr vk eStr (keysAV (insL v.keys s.key i j)))) 10 (.arr vi eV (insL ci (x.raw kx ix) i j))) (fun ⟨j, vk, vi⟩ => j ≤ v.keys.length) (fun ⟨j, vk, vi⟩ => v.keys.length - j) ⟨0, .slice none 0 0, .slice none 0 0⟩ (Nat.zero_le _) (Wk.re (.cons rfl lr (.cons rfl lr (.cons rfl lr (.cons rfl (Le.boolE (by simp)) (.cons rfl lr (.cons rfl lr (.cons rfl lr (.cons rfl lr (.cons rfl lr .nil))))))))) (Reown.ofEq (by simp [insL]; rfl)) (fun _ h => by first | exact h | simp [h])) ?_))
  intro ⟨j, vk, vi⟩ hj
  refine J.conv (by (try simp only [nl, stepsO, valO, nthO, curO, mrg, AV.cellsOf, splice_zero, splice_succ, Nat.reduceAdd]); rfl) ?_
  refine J.seq (Zs (Zq rfl (QW.move (.tmp rfl)) (Zq rfl (QW.field_ptr fo29_3 (.tmp rfl) rfl) (Zq rfl (QW.load_box1 3 ty26 (.tmp rfl) rfl rfl) (Zq rfl (QW.len_arr 4 sl26 (.tmp rfl) rfl) (Zq rfl (QW.lss (.tmp rfl) (.tmp rfl)) (Zn ?_)))))))
  refine J.cond (.tmp rfl) (fun c6 => ?_) (fun c6 => ?_)
  · skip
    have hlt : j < v.keys.length := by (simpa [keysAV_length] using c6)
    have hlj : j < v.items.length := by omega
    have hgt := hlw j hlt
    refine Zk (J.seq (J.block (J.cutK (ι := Value × Value) [3, 4, 5, 6, 7, 13, 69, 70, 71, 72, 73] (fun ⟨vk, vi⟩ => [(10, .c vk), (11, .c vi), (12, .c (.bool (decide (i ≤ j))))]) (fun ⟨vk, vi⟩ oo => List.set (List.set oo 9 (.arr vk eStr (keysAV (insP v.keys s.key i j)))) 10 (.arr vi eV (insP ci (x.raw kx ix) i j))) (fun ⟨vk, vi⟩ => True) ?_ ?_)))
    · skip
      refine J.seq (J.region_tailK 10 mixed (by kernel_rfl) (by kernel_rfl) (by kernel_rfl) rfl ?_)
      refine .cons [] rfl rfl rfl (.q rfl (QW.move (.tmp rfl))) ?_
      refine .cons [76] rfl rfl rfl (.q rfl (QW.not (.tmp rfl))) ?_
      refine .cons [77] rfl rfl rfl (.q rfl (QW.move (.tmp rfl))) ?_
      refine .cons [78] rfl rfl rfl (.g rfl rfl rfl (fun hg => (QW.field_ptr fo29_3 (.tmp rfl) rfl))) ?_
      refine .cons [79, 78] rfl rfl rfl (.g rfl rfl rfl (fun hg => (QW.load_box1 3 ty26 (.when rfl hg) rfl rfl))) ?_
      refine .cons [78] rfl rfl rfl (.g rfl rfl rfl (fun hg => (QW.move (.tmp rfl)))) ?_
      refine .cons [80, 81, 78] rfl rfl rfl (.g rfl rfl rfl (fun hg => (QW.index_arr 4 sl26 ty9 rfl (.when rfl hg) rfl (.when rfl hg) rfl (by rw [keysAV_length]; omega) rfl))) ?_
      refine .cons [82, 78] rfl rfl rfl (.g rfl rfl rfl (fun hg => (QW.load_gp1 (o := 0) 4 ty9 (.when rfl hg) rfl (by exact keysAV_getE hlt) rfl rfl))) ?_
      refine .cons [78] rfl rfl rfl (.g rfl rfl rfl (fun hg => (QW.field_ptr fo120_1 (.tmp rfl) rfl))) ?_
      refine .cons [84, 78] rfl rfl rfl (.g rfl rfl rfl (fun hg => (QW.load_box1 2 ty9 (.when rfl hg) rfl rfl))) ?_
      refine .nil ?_
      refine Zg rfl (fun hg => (QW.gtr_s (.when rfl hg) (.when rfl hg))) (Zq rfl (QW.pick_and (.tmp rfl) (.tmp rfl)) (Zn ?_))
      refine J.cond (.tmp rfl) (fun c7 => ?_) (fun c7 => ?_)
      · skip
        have hij : i = j := by (rw [gtr_less] at c7; simp only [Bool.and_eq_true, Bool.not_eq_true', decide_eq_false_iff_not, hgt] at c7; omega)
        refine J.seq (J.region_outK 8 1 (fun os_ ow_ x_ o_ => match os_ with | [] => (∃ v_, x_ = .c v_ ∧ o_ = ow_.set 9 (.arr v_ eStr (keysAV (insL v.keys s.key i j) ++ [[.c (str s.key)]]))) | _ => False) mixed (by kernel_rfl) (by kernel_rfl) (by kernel_rfl) rfl ?_)
        refine OutK.quiet [] rfl rfl rfl (fun qs_ qv_ ql_ => (.q rfl (QW.move (.tmp rfl)))) ?_
        refine OutK.quiet [] rfl rfl rfl (fun qs_ qv_ ql_ => (.q rfl (QW.field_ptr fo120_1 (.tmp rfl) rfl))) ?_
        refine OutK.quiet [89] rfl rfl rfl (fun qs_ qv_ ql_ => by
            rcases qs_ with _ | ⟨⟨y0, p0⟩, qs_⟩
            · skip
              exact (.q rfl (QW.load_box1 2 ty9 (.tmp rfl) rfl rfl))
            rcases qs_ with _ | ⟨⟨y1, p1⟩, qs_⟩
            · skip
              obtain ⟨hr0, _⟩ := qv_
              obtain ⟨v92, rfl, rfl⟩ := hr0
              exact (.q rfl (QW.load_box1 2 ty9 (.tmp rfl) rfl rfl))
            exact absurd ql_ (by simp)) ?_
        refine OutK.quiet [90] rfl rfl rfl (fun qs_ qv_ ql_ => (.q rfl (QW.buildSlice (idx := [0]) (xs := [[.c (str s.key)]]) sl26 el9 z9 rfl (.cons (.tmp rfl) .nil) rfl rfl rfl rfl rfl rfl rfl rfl rfl))) ?_
        refine OutK.loud [88, 91] rfl rfl rfl rfl rfl (fun qs_ qv_ ql_ => by
            obtain rfl : qs_ = [] := List.length_eq_zero_iff.1 ql_
            exact LStepR.append 9 sl26 el9 rfl (.tmp rfl) rfl (srcA_sl sl26 (.tmp rfl)) (by rw [keysAV_length]; simp; unfold reach; have := insL_len v.keys s.key i j; show _ * 16 ≤ _; omega)) ?_
        refine OutK.quiet [] rfl rfl rfl (fun qs_ qv_ ql_ => (.q rfl (QW.move (.tmp rfl)))) ?_
        refine OutK.quiet [] rfl rfl rfl (fun qs_ qv_ ql_ => by
            rcases qs_ with _ | ⟨⟨y0, p0⟩, qs_⟩
            · skip
              exact (.q rfl (QW.load_box 1 ty29 (.tmp rfl) rfl rfl rfl))
            rcases qs_ with _ | ⟨⟨y1, p1⟩, qs_⟩
            · skip
              obtain ⟨hr0, _⟩ := qv_
              obtain ⟨v92, rfl, rfl⟩ := hr0
              exact (.q rfl (QW.load_box 1 ty29 (.tmp rfl) rfl rfl rfl))
            exact absurd ql_ (by simp)) ?_
        refine OutK.quiet [94] rfl rfl rfl (fun qs_ qv_ ql_ => (.q rfl (QW.buildSlice (idx := [0]) (xs := [x.raw kx ix]) sl27 el29 z29 rfl (.cons (.tmp rfl) .nil) rfl rfl rfl rfl rfl rfl rfl rfl rfl))) ?_
        refine .nil fun qs_ qv_ ql_ => ?_
        obtain ⟨⟨y0, p0⟩, qs_, rfl⟩ : ∃ p t, qs_ = p :: t := by (cases qs_ with | nil => simp at ql_ | cons p t => exact ⟨p, t, rfl⟩)
        obtain rfl : qs_ = [] := List.length_eq_zero_iff.1 (by simpa using ql_)
        obtain ⟨hr0, _⟩ := qv_
        obtain ⟨v92, rfl, rfl⟩ := hr0
        refine JL.conv (by (try simp only [nl, stepsO, valO, nthO, curO, mrg, AV.cellsOf, splice_zero, splice_succ, Nat.reduceAdd]); rfl) ?_
        refine JL.append 10 sl27 el29 rfl (.tmp rfl) rfl (srcA_sl sl27 (.tmp rfl)) (by simp; unfold reach; have := insL_len ci (x.raw kx ix) i j; show _ * 80 ≤ _; omega) rfl fun v96 => ?_
        refine Zq rfl (QW.assign (.tmp rfl)) (Zq rfl (QW.assign (.tmp rfl)) (Zn (J.region_lit (Zq rfl (QW.assign .const) (Zn ?_)))))
        exact ⟨⟨v92, v96⟩, trivial, Wk.re (.cons rfl lr (.cons rfl lr (.cons rfl (Le.boolE (by simp; omega)) (.cons rfl lr (.cons rfl lr (.cons rfl lr (.cons rfl lr (.cons rfl lr (.cons rfl lr (.cons rfl lr (.cons rfl lr (.cons rfl lr (.cons rfl lr (.cons rfl lr .nil)))))))))))))) (Reown.ofEq (by show [_, _, _, _, _, _, _, _, _, Own.arr v92 eStr _, Own.arr v96 eV _] = [_, _, _, _, _, _, _, _, _, Own.arr v92 eStr _, Own.arr v96 eV _]; subst hij; rw [keysAV_snoc, insP_at (by omega), insP_at (by omega)]; first | done | rfl)) (fun _ h => by first | exact h | simp [h])⟩
      have hij : i ≠ j := by (intro hh; rw [gtr_less, hgt.2 (by omega)] at c7; simp at c7; omega)
      refine Zk ?_
      exact ⟨⟨vk, vi⟩, trivial, Wk.re (.cons rfl lr (.cons rfl lr (.cons rfl (Le.boolE (by rw [decide_eq_decide]; omega)) (.cons rfl lr (.cons rfl lr (.cons rfl lr (.cons rfl lr (.cons rfl lr (.cons rfl lr (.cons rfl lr (.cons rfl lr (.cons rfl lr (.cons rfl lr (.cons rfl lr .nil)))))))))))))) (Reown.ofEq (by show [_, _, _, _, _, _, _, _, _, Own.arr vk eStr _, Own.arr vi eV _] = [_, _, _, _, _, _, _, _, _, Own.arr vk eStr _, Own.arr vi eV _]; rw [insP_ne hij, insP_ne hij]; first | done | rfl)) (fun _ h => by first | exact h | simp [h])⟩
    · intro ⟨vk, vi⟩ _
      refine J.conv (by (try simp only [nl, stepsO, valO, nthO, curO, mrg, AV.cellsOf, splice_zero, splice_succ, Nat.reduceAdd]); rfl) ?_
      obtain ⟨kv3, iv3, ok3, oi3, ob, oa, u1, u3, e1, e3, e4, e5, e6, e7, e8, e9, e10⟩ := kids_at hlj q2 q3 q1 q4 q5
      have hcj : (v.items[j]'hlj).raw kv3 iv3 = ci[j]'(by omega) := (Option.some.inj ((List.getElem?_eq_getElem (by omega)).symm.trans e1)).symm
      refine J.region_outK 15 1 (fun os_ ow_ x_ o_ => match os_ with | [] => (∃ v_, x_ = .c v_ ∧ o_ = ow_.set 9 (.arr v_ eStr (keysAV (insP v.keys s.key i j) ++ [[.c (str (v.keys[j]'hlt))]]))) | _ => False) mixed (by kernel_rfl) (by kernel_rfl) (by kernel_rfl) rfl ?_
      refine OutK.quiet [] rfl rfl rfl (fun qs_ qv_ ql_ => (.q rfl (QW.move (.tmp rfl)))) ?_
      refine OutK.quiet [] rfl rfl rfl (fun qs_ qv_ ql_ => (.q rfl (QW.field_ptr fo29_3 (.tmp rfl) rfl))) ?_
      refine OutK.quiet [98] rfl rfl rfl (fun qs_ qv_ ql_ => by
          rcases qs_ with _ | ⟨⟨y0, p0⟩, qs_⟩
          · skip
            exact (.q rfl (QW.load_box1 3 ty26 (.tmp rfl) rfl rfl))
          rcases qs_ with _ | ⟨⟨y1, p1⟩, qs_⟩
          · skip
            obtain ⟨hr0, _⟩ := qv_
            obtain ⟨v104, rfl, rfl⟩ := hr0
            exact (.q rfl (QW.load_box1 3 ty26 (.tmp rfl) rfl rfl))
          exact absurd ql_ (by simp)) ?_
      refine OutK.quiet [] rfl rfl rfl (fun qs_ qv_ ql_ => (.q rfl (QW.move (.tmp rfl)))) ?_
      refine OutK.quiet [99, 100] rfl rfl rfl (fun qs_ qv_ ql_ => by
          rcases qs_ with _ | ⟨⟨y0, p0⟩, qs_⟩
          · skip
            exact (.q rfl (QW.index_arr 4 sl26 ty9 rfl (.tmp rfl) rfl (.tmp rfl) rfl (by rw [keysAV_length]; omega) rfl))
          rcases qs_ with _ | ⟨⟨y1, p1⟩, qs_⟩
          · skip
            obtain ⟨hr0, _⟩ := qv_
            obtain ⟨v104, rfl, rfl⟩ := hr0
            exact (.q rfl (QW.index_arr 4 sl26 ty9 rfl (.tmp rfl) rfl (.tmp rfl) rfl (by rw [keysAV_length]; omega) rfl))
          exact absurd ql_ (by simp)) ?_
      refine OutK.quiet [101] rfl rfl rfl (fun qs_ qv_ ql_ => by
          rcases qs_ with _ | ⟨⟨y0, p0⟩, qs_⟩
          · skip
            exact (.q rfl (QW.load_gp1 (o := 0) 4 ty9 (.tmp rfl) rfl (by exact keysAV_getE hlt) rfl rfl))
          rcases qs_ with _ | ⟨⟨y1, p1⟩, qs_⟩
          · skip
            obtain ⟨hr0, _⟩ := qv_
            obtain ⟨v104, rfl, rfl⟩ := hr0
            exact (.q rfl (QW.load_gp1 (o := 0) 4 ty9 (.tmp rfl) rfl (by exact keysAV_getE hlt) rfl rfl))
          exact absurd ql_ (by simp)) ?_
      refine OutK.quiet [102] rfl rfl rfl (fun qs_ qv_ ql_ => (.q rfl (QW.buildSlice (idx := [0]) (xs := [[.c (str (v.keys[j]'hlt))]]) sl26 el9 z9 rfl (.cons (.tmp rfl) .nil) rfl rfl rfl rfl rfl rfl rfl rfl rfl))) ?_
      refine OutK.loud [97, 103] rfl rfl rfl rfl rfl (fun qs_ qv_ ql_ => by
          obtain rfl : qs_ = [] := List.length_eq_zero_iff.1 ql_
          exact LStepR.append 9 sl26 el9 rfl (.tmp rfl) rfl (srcA_sl sl26 (.tmp rfl)) (by rw [keysAV_length]; simp; unfold reach; have := insP_len v.keys s.key i j; show _ * 16 ≤ _; omega)) ?_
      refine OutK.quiet [] rfl rfl rfl (fun qs_ qv_ ql_ => (.q rfl (QW.move (.tmp rfl)))) ?_
      refine OutK.quiet [] rfl rfl rfl (fun qs_ qv_ ql_ => (.q rfl (QW.field_ptr fo29_4 (.tmp rfl) rfl))) ?_
      refine OutK.quiet [106] rfl rfl rfl (fun qs_ qv_ ql_ => by
          rcases qs_ with _ | ⟨⟨y0, p0⟩, qs_⟩
          · skip
            exact (.q rfl (QW.load_box1 3 ty27 (.tmp rfl) rfl rfl))
          rcases qs_ with _ | ⟨⟨y1, p1⟩, qs_⟩
          · skip
            obtain ⟨hr0, _⟩ := qv_
            obtain ⟨v104, rfl, rfl⟩ := hr0
            exact (.q rfl (QW.load_box1 3 ty27 (.tmp rfl) rfl rfl))
          exact absurd ql_ (by simp)) ?_
      refine OutK.quiet [] rfl rfl rfl (fun qs_ qv_ ql_ => (.q rfl (QW.move (.tmp rfl)))) ?_
      refine OutK.quiet [107, 108] rfl rfl rfl (fun qs_ qv_ ql_ => by
          rcases qs_ with _ | ⟨⟨y0, p0⟩, qs_⟩
          · skip
            exact (.q rfl (QW.index_arr 5 sl27 ty29 rfl (.tmp rfl) rfl (.tmp rfl) rfl (by omega) rfl))
          rcases qs_ with _ | ⟨⟨y1, p1⟩, qs_⟩
          · skip
            obtain ⟨hr0, _⟩ := qv_
            obtain ⟨v104, rfl, rfl⟩ := hr0
            exact (.q rfl (QW.index_arr 5 sl27 ty29 rfl (.tmp rfl) rfl (.tmp rfl) rfl (by omega) rfl))
          exact absurd ql_ (by simp)) ?_
      refine OutK.quiet [109] rfl rfl rfl (fun qs_ qv_ ql_ => by
          rcases qs_ with _ | ⟨⟨y0, p0⟩, qs_⟩
          · skip
            exact (.q rfl (QW.load_gp (o := 0) 5 ty29 (.tmp rfl) rfl (by exact e1) rfl rfl rfl))
          rcases qs_ with _ | ⟨⟨y1, p1⟩, qs_⟩
          · skip
            obtain ⟨hr0, _⟩ := qv_
            obtain ⟨v104, rfl, rfl⟩ := hr0
            exact (.q rfl (QW.load_gp 5 ty29 (.tmp rfl) rfl (by exact e1) rfl rfl rfl))
          exact absurd ql_ (by simp)) ?_
      refine OutK.quiet [110] rfl rfl rfl (fun qs_ qv_ ql_ => (.q rfl (QW.buildSlice (idx := [0]) (xs := [(v.items[j]'hlj).raw kv3 iv3]) sl27 el29 z29 rfl (.cons (.tmp rfl) .nil) rfl rfl rfl rfl rfl rfl rfl rfl rfl))) ?_
      refine .nil fun qs_ qv_ ql_ => ?_
      obtain ⟨⟨y0, p0⟩, qs_, rfl⟩ : ∃ p t, qs_ = p :: t := by (cases qs_ with | nil => simp at ql_ | cons p t => exact ⟨p, t, rfl⟩)
      obtain rfl : qs_ = [] := List.length_eq_zero_iff.1 (by simpa using ql_)
      obtain ⟨hr0, _⟩ := qv_
      obtain ⟨v104, rfl, rfl⟩ := hr0
      refine JL.conv (by (try simp only [nl, stepsO, valO, nthO, curO, mrg, AV.cellsOf, splice_zero, splice_succ, Nat.reduceAdd]); rfl) ?_
      refine JL.append 10 sl27 el29 rfl (.tmp rfl) rfl (srcA_sl sl27 (.tmp rfl)) (by simp; unfold reach; have := insP_len ci (x.raw kx ix) i j; show _ * 80 ≤ _; omega) rfl fun v112 => ?_
      refine Zq rfl (QW.assign (.tmp rfl)) (Zq rfl (QW.assign (.tmp rfl)) (JL.nil (blkQ.n (thenQ.n (J.region_lit (Zq rfl (QW.move (.tmp rfl)) (Zq rfl (QW.add (.tmp rfl) .const (w64 (by omega))) (Zq rfl (QW.assign (.tmp rfl)) (Zn ?_)))))))))
      exact ⟨⟨j + 1, v104, v112⟩, hlt, by show v.keys.length - (j + 1) < v.keys.length - j; omega, Wk.re (.cons rfl lr (.cons rfl lr (.cons rfl lr (.cons rfl (Le.boolE (by simp; omega)) (.cons rfl lr (.cons rfl lr (.cons rfl lr (.cons rfl lr (.cons rfl lr .nil))))))))) (Reown.ofEq (by show [_, _, _, _, _, _, _, _, _, Own.arr v104 eStr _, Own.arr v112 eV _] = [_, _, _, _, _, _, _, _, _, Own.arr v104 eStr _, Own.arr v112 eV _]; rw [keysAV_snoc, insL_next hlt, hcj, insL_next (by omega)]; rfl)) (fun _ h => by first | exact h | simp [h])⟩
  obtain rfl : j = v.keys.length := by (simp [keysAV_length] at c6; omega)
  refine J.exit (thenQ.x (thenQ.x (blkQ.hit (thenQ.n (J.cutK (ι := Value × Value) [3, 6, 7] (fun ⟨vk, vi⟩ => [(10, .c vk), (11, .c vi)]) (fun ⟨vk, vi⟩ oo => List.set (List.set oo 9 (.arr vk eStr (keysAV (v.keys.take i ++ [s.key] ++ v.keys.drop i)))) 10 (.arr vi eV (ci.take i ++ [x.raw kx ix] ++ ci.drop i))) (fun ⟨vk, vi⟩ => True) ?_ ?_)))))
  · skip
    refine Zs (Zq rfl (QW.move (.tmp rfl)) (Zq rfl (QW.not (.tmp rfl)) (Zn ?_)))
    refine J.cond (.tmp rfl) (fun c7 => ?_) (fun c7 => ?_)
    · skip
      have hij : i = v.keys.length := by (simp at c7; omega)
      refine J.region_outK 8 1 (fun os_ ow_ x_ o_ => match os_ with | [] => (∃ v_, x_ = .c v_ ∧ o_ = ow_.set 9 (.arr v_ eStr (keysAV (insL v.keys s.key i v.keys.length) ++ [[.c (str s.key)]]))) | _ => False) mixed (by kernel_rfl) (by kernel_rfl) (by kernel_rfl) rfl ?_
      refine OutK.quiet [] rfl rfl rfl (fun qs_ qv_ ql_ => (.q rfl (QW.move (.tmp rfl)))) ?_
      refine OutK.quiet [] rfl rfl rfl (fun qs_ qv_ ql_ => (.q rfl (QW.field_ptr fo120_1 (.tmp rfl) rfl))) ?_
      refine OutK.quiet [116] rfl rfl rfl (fun qs_ qv_ ql_ => by
          rcases qs_ with _ | ⟨⟨y0, p0⟩, qs_⟩
          · skip
            exact (.q rfl (QW.load_box1 2 ty9 (.tmp rfl) rfl rfl))
          rcases qs_ with _ | ⟨⟨y1, p1⟩, qs_⟩
          · skip
            obtain ⟨hr0, _⟩ := qv_
            obtain ⟨v119, rfl, rfl⟩ := hr0
            exact (.q rfl (QW.load_box1 2 ty9 (.tmp rfl) rfl rfl))
          exact absurd ql_ (by simp)) ?_
      refine OutK.quiet [117] rfl rfl rfl (fun qs_ qv_ ql_ => (.q rfl (QW.buildSlice (idx := [0]) (xs := [[.c (str s.key)]]) sl26 el9 z9 rfl (.cons (.tmp rfl) .nil) rfl rfl rfl rfl rfl rfl rfl rfl rfl))) ?_
      refine OutK.loud [115, 118] rfl rfl rfl rfl rfl (fun qs_ qv_ ql_ => by
          obtain rfl : qs_ = [] := List.length_eq_zero_iff.1 ql_
          exact LStepR.append 9 sl26 el9 rfl (.tmp rfl) rfl (srcA_sl sl26 (.tmp rfl)) (by rw [keysAV_length]; simp; unfold reach; have := insL_len v.keys s.key i v.keys.length; show _ * 16 ≤ _; omega)) ?_
      refine OutK.quiet [] rfl rfl rfl (fun qs_ qv_ ql_ => (.q rfl (QW.move (.tmp rfl)))) ?_
      refine OutK.quiet [] rfl rfl rfl (fun qs_ qv_ ql_ => by
          rcases qs_ with _ | ⟨⟨y0, p0⟩, qs_⟩
          · skip
            exact (.q rfl (QW.load_box 1 ty29 (.tmp rfl) rfl rfl rfl))
          rcases qs_ with _ | ⟨⟨y1, p1⟩, qs_⟩
          · skip
            obtain ⟨hr0, _⟩ := qv_
            obtain ⟨v119, rfl, rfl⟩ := hr0
            exact (.q rfl (QW.load_box 1 ty29 (.tmp rfl) rfl rfl rfl))
          exact absurd ql_ (by simp)) ?_
      refine OutK.quiet [121] rfl rfl rfl (fun qs_ qv_ ql_ => (.q rfl (QW.buildSlice (idx := [0]) (xs := [x.raw kx ix]) sl27 el29 z29 rfl (.cons (.tmp rfl) .nil) rfl rfl rfl rfl rfl rfl rfl rfl rfl))) ?_
      refine .nil fun qs_ qv_ ql_ => ?_
      obtain ⟨⟨y0, p0⟩, qs_, rfl⟩ : ∃ p t, qs_ = p :: t := by (cases qs_ with | nil => simp at ql_ | cons p t => exact ⟨p, t, rfl⟩)
      obtain rfl : qs_ = [] := List.length_eq_zero_iff.1 (by simpa using ql_)
      obtain ⟨hr0, _⟩ := qv_
      obtain ⟨v119, rfl, rfl⟩ := hr0
      refine JL.conv (by (try simp only [nl, stepsO, valO, nthO, curO, mrg, AV.cellsOf, splice_zero, splice_succ, Nat.reduceAdd]); rfl) ?_
      refine JL.append 10 sl27 el29 rfl (.tmp rfl) rfl (srcA_sl sl27 (.tmp rfl)) (by simp; unfold reach; have := insL_len ci (x.raw kx ix) i v.keys.length; show _ * 80 ≤ _; omega) rfl fun v123 => ?_
      refine Zq rfl (QW.assign (.tmp rfl)) (Zq rfl (QW.assign (.tmp rfl)) (Zn ?_))
      exact ⟨⟨v119, v123⟩, trivial, Wk.re (.cons rfl lr (.cons rfl lr (.cons rfl lr (.cons rfl lr (.cons rfl lr .nil))))) (Reown.ofEq (by show [_, _, _, _, _, _, _, _, _, Own.arr v119 eStr _, Own.arr v123 eV _] = [_, _, _, _, _, _, _, _, _, Own.arr v119 eStr _, Own.arr v123 eV _]; rw [← hij, keysAV_snoc, insP_at (by omega), insP_at (by omega), insP_all (Nat.le_refl _) (by omega), insP_all (Nat.le_refl _) (by omega)]; first | done | rfl)) (fun _ h => by first | exact h | simp [h])⟩
    have hij : i ≠ v.keys.length := by (simp at c7; omega)
    refine Zk ?_
    exact ⟨⟨vk, vi⟩, trivial, Wk.re (.cons rfl lr (.cons rfl lr (.cons rfl lr (.cons rfl lr (.cons rfl lr .nil))))) (Reown.ofEq (by show [_, _, _, _, _, _, _, _, _, Own.arr vk eStr _, Own.arr vi eV _] = [_, _, _, _, _, _, _, _, _, Own.arr vk eStr _, Own.arr vi eV _]; rw [insP_ne hij, insP_ne hij, insP_all (by omega) (by omega), insP_all (by omega) (by omega)]; first | done | rfl)) (fun _ h => by first | exact h | simp [h])⟩
  · intro ⟨vk, vi⟩ _
    refine J.conv (by (try simp only [nl, stepsO, valO, nthO, curO, mrg, AV.cellsOf, splice_zero, splice_succ, Nat.reduceAdd]); rfl) ?_
    refine J.seq (J.isSlice 9 rfl fun hsk => J.isSlice 10 rfl fun hsi => J.region_lit (Zq rfl (QW.move (.tmp rfl)) (Zq rfl (QW.move (.tmp rfl)) (Zq rfl (QW.field_ptr fo29_3 (.tmp rfl) rfl) (JL.store_box 3 ty26 (.tmp rfl) rfl (.tmp rfl) (by assumption) rfl rfl rfl rfl ?_)))))
    refine Zq rfl (QW.field_ptr fo29_4 (.tmp rfl) rfl) (JL.store_box 3 ty27 (.tmp rfl) rfl (.tmp rfl) (by assumption) rfl rfl rfl rfl ?_)
    exact Zn (J.seq (J.reown (Reown.cons (Reown.cons (Reown.cons (Reown.cons (Reown.put3 _ _ _ _ _ _ _))))) (J.region_lit (Zq rfl (QW.load_box 3 ty29 (.tmp rfl) rfl rfl rfl) (JL.store_boxF 0 ty29 (.tmp rfl) rfl (.tmp rfl) rfl rfl rfl rfl (Zq rfl (QW.assign .const) (Zn (J.ret (Zr [.k, .k, .k, .k, .p, .p] (RetEv.two rfl (REv.cell 0 ty29 rfl rfl rfl rfl lr) (REv.tmp rfl lr)) rfl ⟨_, rfl, SetR.yes (u := v.ins s i x) (e := 0) (kw := vk) (iw := vi) (by rw [hpo]; unfold V.grw; simp [h71, hko, h32]) rfl ⟨hsk, hsi, by (rw [show (v.ins s i x).keys = v.keys.take i ++ [s.key] ++ v.keys.drop i from if_pos h5.1]; exact keys_tr (by simp; unfold reach; omega)), ins_trX (by omega) q2 q3 q1 q4 q5 (by unfold reach; omega) hX⟩⟩)))))))))
end Go.Proofs.YtjhonjdhanlbkaaGreat.J

/- Walks: the page sets a part of a value by a path. -/
namespace Go.Proofs.YtjhonjdhanlbkaaGreat.J
open Go Go.RowKit
set_option maxRecDepth 10000
set_option maxHeartbeats 4000000
theorem Reown.ord {ok arrI okx oix kids ok3 oi3 ob oa : Own} (h : Reown [kids] [ok3, oi3, ob, oa]) : Reown [ok, arrI, okx, oix, kids] [ok, arrI, ob, oa, ok3, oi3, okx, oix] := by
  refine (Reown.left (c := [ok, arrI, okx, oix]) h).trans ⟨fun y => by simp only [fps_cons, fps_nil, List.count_append, List.count_nil, List.cons_append, List.nil_append]; omega, fun w A h => ?_⟩
  simp only [List.forall_mem_cons, List.cons_append, List.nil_append, List.not_mem_nil, false_implies, implies_true, and_true] at h ⊢
  obtain ⟨q1, q2, q3, q4, q5, q6, q7, q8⟩ := h
  exact ⟨q1, q2, q7, q8, q5, q6, q3, q4⟩
theorem Reown.put4 (arrI ob oa okw oiw z : Own) : Reown [arrI, ob, oa, okw, oiw, z] [.grp [arrI, .grp [ob, .grp [.grp [okw, oiw], oa]]]] := by
  refine ⟨fun y => by simp only [fps_cons, fps_nil, fp_grp, List.count_append, List.count_nil]; omega, fun w A h => ?_⟩
  simp only [List.forall_mem_cons, ok_grp, List.not_mem_nil, false_implies, implies_true, and_true] at h ⊢
  obtain ⟨q1, q4, q5, q6, q7, q8⟩ := h
  exact ⟨q1, q4, ⟨q6, q7⟩, q5⟩
theorem V.set_cons {v x : V} {s t : StT} {r : List StT} {i : Nat} {e : Int} (h : v.fnd s = (i, e)) : v.set (s :: t :: r) x = if e ≠ 0 then (.nil, e) else if ((v.kid i).set (t :: r) x).2 ≠ 0 then (.nil, ((v.kid i).set (t :: r) x).2) else (v.setAt i ((v.kid i).set (t :: r) x).1, 0) := by
  rw [V.set]
  simp only [h]
theorem rset_n  : ∀ (n : Nat) {p : List StT} {fr2 cl2 : Bool} {v x : V} {kv iv kx ix : Value} {ok oi okx oix : Own}, VTr v kv iv ok oi → VTr x kx ix okx oix → v.Fine → v.wf → x.wf → p.length * 32 ≤ reach ∧ (∀ s ∈ p, s.wf) → p.length < n → AC Tryz.prog 110 [ok, oi, okx, oix] [.agg (v.raw kv iv), .sl fr2 cl2 eSt (StT.css p), .agg (x.raw kx ix)] (RetR (SetR (v.set p x))) := by
  intro n
  induction n with
  | zero => intro p fr2 cl2 v x kv iv kx ix ok oi okx oix hV hX hf hw hxw hp hn; exact absurd hn (Nat.not_lt_zero _)
  | succ n ih =>
    intro p fr2 cl2 v x kv iv kx ix ok oi okx oix hV hX hf hw hxw hp hn
    obtain ⟨hp80, hpw⟩ := hp
    have hpl : p.length ≤ 4398046511104 := by unfold reach at hp80; omega
    refine AC.of_J Tryz.func110 rfl Tryz.ntmps110 rfl fun w0 A0 => ?_
    refine Zs (JL.box_agg (.tmp rfl) rfl fun b3 => JL.box_agg (.tmp rfl) rfl fun b5 => JL.alloc z29 rfl rfl fun b6 => Zq rfl (QW.assign .const) (Zn (J.seq (Zs (Zq rfl (QW.move (.tmp rfl)) (Zq rfl (QW.len_slE sl121 (.tmp rfl) (StT.css_length _)) ?_))))))
    refine Zq rfl (QW.eql (.tmp rfl) .const) (Zn ?_)
    refine J.cond (.tmp rfl) (fun c1 => ?_) (fun c1 => ?_)
    · skip
      obtain rfl : p = [] := by (cases p with | nil => rfl | cons s r => simp at c1; omega)
      exact Zs (Zq rfl (QW.load_box 1 ty29 (.tmp rfl) rfl rfl rfl) (JL.store_boxF 0 ty29 (.tmp rfl) rfl (.tmp rfl) rfl rfl rfl rfl (Zq rfl (QW.assign .const) (Zn (J.ret (thenQ.r (Zr [.k, .k, .k, .k, .k, .p, .p] (RetEv.two rfl (REv.cell 0 ty29 rfl rfl rfl rfl lr) (REv.tmp rfl lr)) rfl ⟨_, rfl, SetR.yes (u := x) (e := 0) (kw := kx) (iw := ix) rfl rfl hX⟩)))))))
    obtain ⟨s, r, rfl⟩ : ∃ s r, p = s :: r := by (cases p with | nil => simp at c1 | cons s r => exact ⟨s, r, rfl⟩)
    have hsw := hpw s (by simp)
    refine Zk (J.seq (Zs (Zq rfl (QW.move (.tmp rfl)) (Zq rfl (QW.len_slE sl121 (.tmp rfl) (StT.css_length _)) (Zq rfl (QW.eql (.tmp rfl) .const) (Zn ?_))))))
    refine J.cond (.tmp rfl) (fun c2 => ?_) (fun c2 => ?_)
    · skip
      obtain rfl : r = [] := by (cases r with | nil => rfl | cons s r => simp at c2; omega)
      refine J.seq (J.regionX mixed (Zo 0 2 [] rfl (fun _ ho_ => QW.load_box 2 ty29 (.tmp rfl) ho_ rfl rfl) (Zf 1 [] rfl (fun _ => QW.move (.tmp rfl)) (Zf 2 [20] rfl (fun _ => QW.index_sl (m := 0) sl121 ty120 rfl (.tmp rfl) .const rfl (by exact StT.css_getE (l := [s]) (i := 0) (by simp))) ?_))))
      refine Zf 3 [21] rfl (fun _ => QW.load_ref ty120 (.tmp rfl) rfl rfl) (Zo 4 1 [] rfl (fun _ ho_ => QW.load_box 1 ty29 (.tmp rfl) ho_ rfl rfl) (JX.one 5 [true, true, true, true, true] rfl (by kernel_rfl) (by kernel_rfl) rfl rfl (by kernel_rfl) rfl fun bs5_ pe_ ex_ => ?_))
      refine JL.conv (by (try simp only [vlF, bxF, tkM, lvM, Flt.val, Flt.bx, nx, nl, stepsO, valO, nthO, curO, mrg, AV.cellsOf, splice_zero, splice_succ, Nat.reduceAdd]); rfl) ?_
      refine JL.callRF [.k, .k, .k, .p, .p, .p, .p] gofn138 rfl Lent.nil (fun _ => (.cons (.tmp rfl) (.cons (.tmp rfl) (.cons (.tmp rfl) .nil)))) (put_ok (s := s) hV hX hf hw hsw) (.inl rfl) fun x24 o24 h24 => ?_
      obtain ⟨kv24, iv24, ok24, oi24, rfl, rfl, hV24⟩ := h24
      refine JL.nil ?_
      refine thenQ.n ⟨[_], _, rfl, rfl, rfl, rfl, rfl, Reown.mrgN 7 rfl rfl, ⟨rfl, rfl⟩, trivial, ?_⟩
      refine JX.conv (S' := [5, 4, 3, 2, 1, 0]) rfl (by (try simp only [lvM]); rfl) (by (try simp only [vlF, bxF, tkM, lvM, Flt.val, Flt.bx, nx, nl, stepsO, valO, nthO, curO, mrg, AV.cellsOf, splice_zero, splice_succ, Nat.reduceAdd]); rfl) ?_
      refine Zf 6 [24] rfl (fun _ => QW.extract (.tmp rfl) rfl) (Zf 7 [24] rfl (fun _ => QW.extract (.tmp rfl) rfl) (JX.one 8 [true, true] rfl (by kernel_rfl) (by kernel_rfl) rfl rfl (by kernel_rfl) rfl fun bs8_ pe_ ex_ => ?_))
      refine JL.conv (by (try simp only [vlF, bxF, tkM, lvM, Flt.val, Flt.bx, nx, nl, stepsO, valO, nthO, curO, mrg, AV.cellsOf, splice_zero, splice_succ, Nat.reduceAdd]); rfl) ?_
      refine JL.store_boxF 0 ty29 (.tmp rfl) rfl (.tmp rfl) rfl rfl rfl rfl (JL.nil ?_)
      refine thenQ.n ⟨[], _, rfl, rfl, rfl, rfl, rfl, Reown.tkN 5 rfl, trivial, trivial, ?_⟩
      refine JX.conv (S' := [8, 7, 6, 5, 4, 3, 2, 1, 0]) rfl (by (try simp only [lvM]); rfl) (by (try simp only [vlF, bxF, tkM, lvM, Flt.val, Flt.bx, nx, nl, stepsO, valO, nthO, curO, mrg, AV.cellsOf, splice_zero, splice_succ, Nat.reduceAdd]); rfl) ?_
      refine Zf 9 [26] rfl (fun _ => QW.assign (.tmp rfl)) (JX.fin (by kernel_rfl) (by kernel_rfl) fun bs_ => ?_)
      refine QX.conv (by (try simp only [vlF, bxF, tkM, lvM, Flt.val, Flt.bx, nx, nl, stepsO, valO, nthO, curO, mrg, AV.cellsOf, splice_zero, splice_succ, Nat.reduceAdd]); rfl) ?_
      exact thenQ.n (J.ret (thenQ.r (Zr [.k, .k, .k, .p, .p] (RetEv.two rfl (REv.cell 0 ty29 rfl rfl rfl rfl lr) (REv.tmp rfl lr)) rfl ⟨_, rfl, ⟨kv24, iv24, ok24, oi24, rfl, rfl, hV24⟩⟩)))
    obtain ⟨t, r, rfl⟩ : ∃ t q, r = t :: q := by (cases r with | nil => simp at c2 | cons s r => exact ⟨s, r, rfl⟩)
    obtain ⟨i, e, hie⟩ : ∃ i e, v.fnd s = (i, e) := ⟨_, _, rfl⟩
    have hsc := V.set_cons (x := x) (t := t) (r := r) hie
    refine Zk (J.seq (J.regionX mixed (Zo 0 2 [] rfl (fun _ ho_ => QW.load_box 2 ty29 (.tmp rfl) ho_ rfl rfl) (Zf 1 [] rfl (fun _ => QW.move (.tmp rfl)) (Zf 2 [29] rfl (fun _ => QW.index_sl (m := 0) sl121 ty120 rfl (.tmp rfl) .const rfl (by exact StT.css_getE (l := s :: t :: r) (i := 0) (by simp))) ?_)))))
    refine Zf 3 [30] rfl (fun _ => QW.load_ref ty120 (.tmp rfl) rfl rfl) (JX.q 4 [28, 31] rfl rfl rfl rfl rfl rfl rfl rfl (fun ex_ => (.q rfl (QW.callLF [.k, .k, .k, .l, .l] gofn139 (Lent.cons (hV.lentK) (Lent.cons (hV.lentI) Lent.nil)) rfl (by simp [mrg]) (fun _ => (.cons (Ev.le (.tmp rfl) (V.raw_le (by simp) (by simp))) (.cons (.tmp rfl) .nil))) (plcAt (fr := false) hie hf.part hsw) (.tup (FlL.cons (.c _) (FlL.cons (.c _) .nil)))))) ?_)
    refine Zf 5 [32] rfl (fun _ => QW.move (.tmp rfl)) (Zf 6 [27] rfl (fun _ => QW.extract (.tmp rfl) rfl) (Zf 7 [27] rfl (fun _ => QW.extract (.tmp rfl) rfl) (Zf 8 [33] rfl (fun _ => QW.assign (.tmp rfl)) (Zf 9 [34] rfl (fun _ => QW.assign (.tmp rfl)) (JX.fin (by kernel_rfl) (by kernel_rfl) fun bs_ => ?_)))))
    refine QX.conv (by (try simp only [vlF, bxF, tkM, lvM, Flt.val, Flt.bx, nx, nl, stepsO, valO, nthO, curO, mrg, AV.cellsOf, splice_zero, splice_succ, Nat.reduceAdd]); rfl) ?_
    refine thenQ.n (J.seq (Zs (Zq rfl (QW.move (.tmp rfl)) (Zq rfl (QW.neq (.tmp rfl) .const) (Zn ?_)))))
    refine J.cond (.tmp rfl) (fun c3 => ?_) (fun c3 => ?_)
    · skip
      have he0 : e ≠ 0 := by simpa using c3
      refine J.seq (J.reown (Reown.nilGrpE _) (J.reown (Reown.nilGrpE _) (J.region_lit (Zq rfl (QW.build (idx := []) pl29 z29 rfl .nil rfl rfl rfl rfl) (Zq rfl (QW.move (.tmp rfl)) (JL.store_boxF 0 ty29 (.tmp rfl) rfl (.tmp rfl) rfl rfl rfl rfl (Zq rfl (QW.assign (.tmp rfl)) (Zn (J.ret ?_)))))))))
      exact thenQ.r (Zr [.k, .k, .k, .k, .k, .k, .k, .p, .p] (RetEv.two rfl (REv.cell 0 ty29 rfl rfl rfl rfl lr) (REv.tmp rfl lr)) rfl ⟨_, rfl, SetR.no (e := e) (by rw [hsc, if_pos he0])⟩)
    have he0 : e = 0 := by simpa using c3
    have hil : i < v.items.length := by have := V.fnd_lt (v := v) (s := s) hf.part (by rw [hie]; exact he0); rwa [hie] at this
    rw [V.kid_eq hil, if_neg (by simp [he0])] at hsc
    refine Zk (J.seq ?_)
    obtain ⟨ci, ui, o2, q1, q2, q3, q4, q5, q6⟩ := hV.is.inv
    rw [V.css_length] at q2
    refine J.reown (Reown.split2 (i := 4) rfl q6) ?_
    obtain ⟨kv3, iv3, ok3, oi3, ob, oa, u1, u3, e1, e3, e4, e5, e6, e7, e8, e9, e10⟩ := kids_at hil q2 q3 q1 q4 q5
    have ihh := ih (p := t :: r) (fr2 := fr2) (cl2 := cl2) e3 hX (hf.kid (List.getElem_mem hil)) (hw.kid (List.getElem_mem hil)) hxw ⟨Nat.le_trans (Nat.mul_le_mul_right _ (Nat.le_succ (t :: r).length)) hp80, fun z hz => hpw z (List.mem_cons_of_mem _ hz)⟩ (Nat.lt_of_succ_lt_succ hn)
    refine J.reown (Reown.cons (Reown.cons (Reown.cons (Reown.ord e10)))) (J.regionX mixed (Zf 0 [] rfl (fun _ => QW.field_ptr fo29_4 (.tmp rfl) rfl) (Zo 1 2 [40] rfl (fun _ ho_ => QW.load_box1 2 ty27 (.tmp rfl) ho_ rfl) (Zf 2 [] rfl (fun _ => QW.conv (QW.move (.tmp rfl)) (by rw [if_pos he0])) ?_))))
    refine JX.q 3 [41, 42] rfl rfl rfl rfl rfl rfl rfl rfl (fun ex_ => (.q rfl (QW.index_arr 4 sl27 ty29 rfl (.tmp rfl) rfl (.tmp rfl) rfl (by omega) rfl))) (JX.q 4 [43] rfl rfl rfl rfl rfl rfl rfl rfl (fun ex_ => (.q rfl (QW.load_gp (o := 0) 4 ty29 (.tmp rfl) rfl (by exact e1) rfl rfl rfl))) ?_)
    refine Zf 5 [] rfl (fun _ => QW.move (.tmp rfl)) (Zf 6 [45] rfl (fun _ => QW.slice_L (l := 1) sl121 ty120 rfl (.tmp rfl) .const rfl (by simp [StT.css_length])) ?_)
    refine Zo 7 1 [] rfl (fun _ ho_ => QW.load_box 1 ty29 (.tmp rfl) ho_ rfl rfl) (JX.a 12 rfl (AllocOp.mk z29 rfl) rfl rfl rfl rfl rfl (JX.one 8 [false, true, true, true, true, true, true, true, true] rfl (by kernel_rfl) (by kernel_rfl) rfl rfl (by kernel_rfl) rfl fun bs8_ pe_ ex_ => ?_))
    refine JL.conv (by (try simp only [vlF, bxF, tkM, lvM, Flt.val, Flt.bx, nx, nl, stepsO, valO, nthO, curO, mrg, AV.cellsOf, splice_zero, splice_succ, Nat.reduceAdd]); rfl) ?_
    refine JL.callRF [.k, .k, .k, .k, .k, .k, .k, .p, .p, .p, .p] gofn110 rfl Lent.nil (fun _ => (.cons (.tmp rfl) (.cons (Ev.le (.tmp rfl) (Le.eqv (show AV.sl fr2 cl2 eSt ((StT.css (s :: t :: r)).drop 1) = AV.sl fr2 cl2 eSt (StT.css (t :: r)) from rfl))) (.cons (.tmp rfl) .nil)))) (ihh) (.inl rfl) fun x48 o48 h48 => ?_
    obtain ⟨kv48, iv48, ok48, oi48, rfl, rfl, hV48⟩ := h48
    refine JL.nil ?_
    refine thenQ.n ⟨[_], _, rfl, rfl, rfl, rfl, rfl, Reown.mrgN 11 rfl rfl, ⟨rfl, rfl⟩, ⟨trivial, trivial⟩, ?_⟩
    refine JX.conv (S' := [8, 7, 6, 5, 4, 3, 2, 1, 0]) rfl (by (try simp only [lvM]); rfl) (by (try simp only [vlF, bxF, tkM, lvM, Flt.val, Flt.bx, nx, nl, stepsO, valO, nthO, curO, mrg, AV.cellsOf, splice_zero, splice_succ, Nat.reduceAdd]); rfl) ?_
    refine Zf 9 [48] rfl (fun _ => QW.move (.tmp rfl)) (Zf 10 [39] rfl (fun _ => QW.extract (.tmp rfl) rfl) (Zf 11 [39] rfl (fun _ => QW.extract (.tmp rfl) rfl) (JX.one 13 [false, true, true, true] rfl (by kernel_rfl) (by kernel_rfl) rfl rfl (by kernel_rfl) rfl fun bs13_ pe_ ex_ => ?_)))
    refine JL.conv (by (try simp only [vlF, bxF, tkM, lvM, Flt.val, Flt.bx, nx, nl, stepsO, valO, nthO, curO, mrg, AV.cellsOf, splice_zero, splice_succ, Nat.reduceAdd]); rfl) ?_
    refine JL.store_boxF 9 ty29 (.tmp rfl) rfl (.tmp rfl) rfl rfl rfl rfl (JL.nil ?_)
    refine thenQ.n ⟨[], _, rfl, rfl, rfl, rfl, rfl, Reown.tkN 10 rfl, trivial, ⟨trivial, trivial⟩, ?_⟩
    refine JX.conv (S' := [13, 10, 9, 12, 8, 7, 6, 5, 4, 3, 2, 1, 0]) rfl (by (try simp only [lvM]); rfl) (by (try simp only [vlF, bxF, tkM, lvM, Flt.val, Flt.bx, nx, nl, stepsO, valO, nthO, curO, mrg, AV.cellsOf, splice_zero, splice_succ, Nat.reduceAdd]); rfl) ?_
    refine Zf 14 [50] rfl (fun _ => QW.assign (.tmp rfl)) (JX.fin (by kernel_rfl) (by kernel_rfl) fun bs_ => ?_)
    refine QX.conv (by (try simp only [vlF, bxF, tkM, lvM, Flt.val, Flt.bx, nx, nl, stepsO, valO, nthO, curO, mrg, AV.cellsOf, splice_zero, splice_succ, Nat.reduceAdd]); rfl) ?_
    refine thenQ.n (J.seq (Zs (Zq rfl (QW.move (.tmp rfl)) (Zq rfl (QW.neq (.tmp rfl) .const) (Zn ?_)))))
    refine J.cond (.tmp rfl) (fun c4 => ?_) (fun c4 => ?_)
    · skip
      have hs0 : ((v.items[i]'hil).set (t :: r) x).2 ≠ 0 := by simpa using c4
      refine J.seq (J.reown (Reown.nilGrpE _) (J.reown (Reown.nilGrpE _) (J.region_lit (Zq rfl (QW.build (idx := []) pl29 z29 rfl .nil rfl rfl rfl rfl) (Zq rfl (QW.move (.tmp rfl)) (JL.store_boxF 0 ty29 (.tmp rfl) rfl (.tmp rfl) rfl rfl rfl rfl (Zq rfl (QW.assign (.tmp rfl)) (Zn (J.ret ?_)))))))))
      exact thenQ.r (Zr [.k, .k, .k, .k, .k, .k, .k, .k, .k, .k, .p, .p] (RetEv.two rfl (REv.cell 0 ty29 rfl rfl rfl rfl lr) (REv.tmp rfl lr)) rfl ⟨_, rfl, SetR.no (e := _) (by rw [hsc, if_pos hs0])⟩)
    have hs0 : ((v.items[i]'hil).set (t :: r) x).2 = 0 := by simpa using c4
    refine Zk (J.seq ?_)
    skip
    refine J.region_lit (Zq rfl (QW.field_ptr fo29_4 (.tmp rfl) rfl) (Zq rfl (QW.load_box1 2 ty27 (.tmp rfl) rfl rfl) (Zq rfl (QW.conv (QW.move (.tmp rfl)) (by rw [if_pos he0])) ?_)))
    refine Zq rfl (QW.load_box 9 ty29 (.tmp rfl) rfl rfl rfl) (Zq rfl (QW.index_arr 4 sl27 ty29 rfl (.tmp rfl) rfl (.tmp rfl) rfl (by omega) rfl) (JL.store_gp 4 ty29 (.tmp rfl) rfl e1 rfl (.tmp rfl) rfl rfl rfl (congrArg (List.set _ _) (splice_all rfl)) rfl (Zn (J.seq (J.reown (Reown.cons (Reown.cons (Reown.cons (Reown.cons (Reown.put4 _ _ _ _ _ _))))) (J.region_lit (Zq rfl (QW.load_box 2 ty29 (.tmp rfl) rfl rfl rfl) (JL.store_boxF 0 ty29 (.tmp rfl) rfl (.tmp rfl) rfl rfl rfl rfl (Zq rfl (QW.assign .const) ?_)))))))))
    exact Zn (J.ret (Zr [.k, .k, .k, .p, .p] (RetEv.two rfl (REv.cell 0 ty29 rfl rfl rfl rfl lr) (REv.tmp rfl lr)) rfl ⟨_, rfl, SetR.yes (u := v.setAt i ((v.items[i]'hil).set (t :: r) x).1) (e := 0) (kw := kv) (iw := iv) (by rw [hsc, if_neg (by simp [hs0])]) rfl (VTr.setAt hw hV.k1 hV.i1 hV.ks hil q2 q3 e4 e5 e6 e7 e8 e9 hV48)⟩))
end Go.Proofs.YtjhonjdhanlbkaaGreat.J

/- Walks: orders of numbers, texts, lists. -/
namespace Go.Proofs.YtjhonjdhanlbkaaGreat.J
open Go Go.RowKit
set_option maxRecDepth 10000
set_option maxHeartbeats 4000000
theorem cmpI_ok (a b : Int) : Fn Tryz.prog 122 [.c (.int .i64 a), .c (.int .i64 b)] (.c (.int .i64 (cmpI a b))) := cmpInt_ok a b
theorem cmpK_drop {a b : List Str} {k : Nat} (ha : k < a.length) (hb : k < b.length) : cmpK (a.drop k) (b.drop k) = orI (cmpS a[k] b[k]) (cmpK (a.drop (k + 1)) (b.drop (k + 1))) := by
  rw [List.drop_eq_getElem_cons ha, List.drop_eq_getElem_cons hb, cmpK]
theorem cmpK_gt {a b : List Str} {k : Nat} (ha : k < a.length) (hb : b.length ≤ k) : cmpK (a.drop k) (b.drop k) = 1 := by
  rw [List.drop_eq_getElem_cons ha, List.drop_of_length_le hb, cmpK]
theorem cmpK_lt {a b : List Str} {k : Nat} (ha : a.length ≤ k) (hb : k < b.length) : cmpK (a.drop k) (b.drop k) = -1 := by
  rw [List.drop_eq_getElem_cons hb, List.drop_of_length_le ha, cmpK]
theorem cmpK_eq {a b : List Str} {k : Nat} (ha : a.length ≤ k) (hb : b.length ≤ k) : cmpK (a.drop k) (b.drop k) = 0 := by
  rw [List.drop_of_length_le hb, List.drop_of_length_le ha, cmpK]
theorem ords_drop {a b : List V} {k : Nat} (ha : k < a.length) (hb : k < b.length) : V.ords (a.drop k) (b.drop k) = orI (a[k].ord b[k]) (V.ords (a.drop (k + 1)) (b.drop (k + 1))) := by
  rw [List.drop_eq_getElem_cons ha, List.drop_eq_getElem_cons hb, V.ords]
theorem ords_gt {a b : List V} {k : Nat} (ha : k < a.length) (hb : b.length ≤ k) : V.ords (a.drop k) (b.drop k) = 1 := by
  rw [List.drop_eq_getElem_cons ha, List.drop_of_length_le hb, V.ords]
theorem ords_lt {a b : List V} {k : Nat} (ha : a.length ≤ k) (hb : k < b.length) : V.ords (a.drop k) (b.drop k) = -1 := by
  rw [List.drop_eq_getElem_cons hb, List.drop_of_length_le ha, V.ords]
theorem ords_eq {a b : List V} {k : Nat} (ha : a.length ≤ k) (hb : b.length ≤ k) : V.ords (a.drop k) (b.drop k) = 0 := by
  rw [List.drop_of_length_le hb, List.drop_of_length_le ha, V.ords]
theorem orI_n {a b : Int} (h : a ≠ 0) : orI a b = a := if_pos h
theorem orI_z {b : Int} : orI 0 b = b := if_neg (fun h => h rfl)
def orL : List Int → Int
  | [] => 0
  | x :: r => orI x (orL r)
theorem orL_drop {l : List Int} {k : Nat} (h : k < l.length) : orL (l.drop k) = orI l[k] (orL (l.drop (k + 1))) := by
  rw [List.drop_eq_getElem_cons h, orL]
theorem orL_end {l : List Int} {k : Nat} (h : l.length ≤ k) : orL (l.drop k) = 0 := by rw [List.drop_of_length_le h, orL]
theorem orL_one (a : Int) : orL [a] = a := by simp only [orL, orI]; split <;> omega
theorem nanU_ok (n : Int) : Fn Tryz.prog 144 [.c (.int .u64 n)] (.c (.bool false)) := by
  refine AC.of_J Tryz.func144 rfl Tryz.ntmps144 rfl fun w0 A0 => ?_
  exact Zs (Zq rfl (QW.assign .const) (Zn (Zs (Zq rfl (QW.move (.tmp rfl)) (Zq rfl (QW.move (.tmp rfl)) (Zq rfl (QW.neq (.tmp rfl) (.tmp rfl)) (Zq rfl (QW.assign (.tmp rfl)) (Zn (J.ret (Zr [] (RetEv.one rfl (REv.tmp rfl lr)) rfl ⟨ret_b (by simp), rfl⟩))))))))))
theorem cmpU_ok (a b : Int) : Fn Tryz.prog 125 [.c (.int .u64 a), .c (.int .u64 b)] (.c (.int .i64 (cmpI a b))) := by
  refine AC.of_J Tryz.func125 rfl Tryz.ntmps125 rfl fun w0 A0 => ?_
  refine Zs (Zq rfl (QW.assign .const) (Zn (Zs (Zq rfl (QW.move (.tmp rfl)) (Zq rfl (QW.call gofn144 (.cons (.tmp rfl) .nil) (nanU_ok _)) (Zq rfl (QW.assign (.tmp rfl)) (Zn (Zs (Zq rfl (QW.move (.tmp rfl)) ?_)))))))))
  refine Zq rfl (QW.call gofn144 (.cons (.tmp rfl) .nil) (nanU_ok _)) (Zq rfl (QW.assign (.tmp rfl)) (Zn (J.seq (Zs (Zq rfl (QW.move (.tmp rfl)) (Zn ?_))))))
  refine J.cond (.tmp rfl) (fun c1 => absurd c1 (by simp)) (fun c1 => ?_)
  refine Zk (J.seq (Zs (Zq rfl (QW.move (.tmp rfl)) (Zn ?_))))
  refine J.cond (.tmp rfl) (fun c2 => absurd c2 (by simp)) (fun c2 => ?_)
  refine Zk (J.seq (Zs (Zq rfl (QW.move (.tmp rfl)) (Zq rfl (QW.move (.tmp rfl)) (Zq rfl (QW.lss (.tmp rfl) (.tmp rfl)) (Zn ?_))))))
  refine J.cond (.tmp rfl) (fun c3 => ?_) (fun c3 => ?_)
  · skip
    simp at c3
    exact Zs (Zq rfl (QW.assign .const) (Zn (J.ret (thenQ.r (Zr [] (RetEv.one rfl (REv.tmp rfl lr)) rfl ⟨by rw [show cmpI a b = -1 from if_pos c3], rfl⟩)))))
  simp at c3
  refine Zk (J.seq (Zs (Zq rfl (QW.move (.tmp rfl)) (Zq rfl (QW.move (.tmp rfl)) (Zq rfl (QW.gtr (.tmp rfl) (.tmp rfl)) (Zn ?_))))))
  refine J.cond (.tmp rfl) (fun c4 => ?_) (fun c4 => ?_)
  · skip
    simp at c4
    exact Zs (Zq rfl (QW.assign .const) (Zn (J.ret (thenQ.r (Zr [] (RetEv.one rfl (REv.tmp rfl lr)) rfl ⟨by rw [show cmpI a b = 1 by unfold cmpI; rw [if_neg (by omega), if_pos (by omega)]], rfl⟩)))))
  simp at c4
  exact Zk (Zs (Zq rfl (QW.assign .const) (Zn (J.ret (Zr [] (RetEv.one rfl (REv.tmp rfl lr)) rfl ⟨by rw [show cmpI a b = 0 by unfold cmpI; rw [if_neg (by omega), if_neg (by omega)]], rfl⟩)))))
theorem cmpStr_ok (a b : Str) : Fn Tryz.prog 126 [.c (str a), .c (str b)] (.c (.int .i64 (cmpS a b))) := by
  refine AC.of_J Tryz.func126 rfl Tryz.ntmps126 rfl fun w0 A0 => ?_
  refine Zs (Zq rfl (QW.assign .const) (Zn (Zs (Zq rfl (QW.move (.tmp rfl)) (Zq rfl (QW.call gofn145 (.cons (.tmp rfl) .nil) (cnanStr_ok _)) (Zq rfl (QW.assign (.tmp rfl)) (Zn (Zs (Zq rfl (QW.move (.tmp rfl)) ?_)))))))))
  refine Zq rfl (QW.call gofn145 (.cons (.tmp rfl) .nil) (cnanStr_ok _)) (Zq rfl (QW.assign (.tmp rfl)) (Zn (J.seq (Zs (Zq rfl (QW.move (.tmp rfl)) (Zn ?_))))))
  refine J.cond (.tmp rfl) (fun c1 => absurd c1 (by simp)) (fun c1 => ?_)
  refine Zk (J.seq (Zs (Zq rfl (QW.move (.tmp rfl)) (Zn ?_))))
  refine J.cond (.tmp rfl) (fun c2 => absurd c2 (by simp)) (fun c2 => ?_)
  refine Zk (J.seq (Zs (Zq rfl (QW.move (.tmp rfl)) (Zq rfl (QW.move (.tmp rfl)) (Zq rfl (QW.lss_s (.tmp rfl) (.tmp rfl)) (Zn ?_))))))
  refine J.cond (.tmp rfl) (fun c3 => ?_) (fun c3 => ?_)
  · skip
    exact Zs (Zq rfl (QW.assign .const) (Zn (J.ret (thenQ.r (Zr [] (RetEv.one rfl (REv.tmp rfl lr)) rfl ⟨by simp [cmpS, c3], rfl⟩)))))
  refine Zk (J.seq (Zs (Zq rfl (QW.move (.tmp rfl)) (Zq rfl (QW.move (.tmp rfl)) (Zq rfl (QW.gtr_s (.tmp rfl) (.tmp rfl)) (Zn ?_))))))
  refine J.cond (.tmp rfl) (fun c4 => ?_) (fun c4 => ?_)
  · skip
    exact Zs (Zq rfl (QW.assign .const) (Zn (J.ret (thenQ.r (Zr [] (RetEv.one rfl (REv.tmp rfl lr)) rfl ⟨by rw [gtr_less] at c4; simp [cmpS, c3, c4], rfl⟩)))))
  exact Zk (Zs (Zq rfl (QW.assign .const) (Zn (J.ret (Zr [] (RetEv.one rfl (REv.tmp rfl lr)) rfl ⟨by rw [gtr_less] at c4; simp [cmpS, c3, c4], rfl⟩)))))
theorem or_ok {fr c : Bool} (l : List Int) (hl : l.length ≤ 1000) : Fn Tryz.prog 124 [.sl fr c eI64 (intsAV l)] (.c (.int .i64 (orL l))) := by
  refine AC.of_J Tryz.func124 rfl Tryz.ntmps124 rfl fun w0 A0 => ?_
  refine Zs (Zq rfl (QW.assign .const) (Zn (Zs (Zq rfl (QW.assign .const) (Zn (J.seq (Zs (Zq rfl (QW.move (.tmp rfl)) (Zq rfl (QW.len_slE sl130 (.tmp rfl) (intsAV_length _)) ?_)))))))))
  refine Zq rfl (QW.move .const) (Zn (J.block (J.loopK (ι := Nat) [3, 6, 7] (fun k => [(8, .c (.int .i64 (k : Int)))]) (fun _ oo => oo) (fun k => k ≤ l.length ∧ orL l = orL (l.drop k)) (fun k => l.length - k) 0 (⟨Nat.zero_le _, rfl⟩) (Wk.re (.cons rfl lr (.cons rfl lr (.cons rfl lr (.cons rfl lr .nil)))) (Reown.refl _) (fun _ h => by first | exact h | simp [h])) ?_)))
  intro k ⟨hk, hs⟩
  refine J.conv (by (try simp only [nl, stepsO, valO, nthO, curO, mrg, AV.cellsOf, splice_zero, splice_succ, Nat.reduceAdd]); rfl) ?_
  refine Zs (Zq rfl (QW.lss (.tmp rfl) (.tmp rfl)) (Zn (J.seq ?_)))
  refine J.cond (.tmp rfl) (fun c1 => ?_) (fun c1 => ?_)
  · skip
    have hlt : k < l.length := by simpa using c1
    refine Zk (J.seq (J.block (Zs (Zq rfl (QW.index_sl sl130 ty3 rfl (.tmp rfl) (.tmp rfl) rfl (by exact intsAV_getE hlt)) ?_))))
    refine Zq rfl (QW.load_ref1 ty3 (.tmp rfl) rfl) (Zq rfl (QW.assign (.tmp rfl)) (Zn (Zs (Zq rfl (QW.move (.tmp rfl)) (Zq rfl (QW.move (.tmp rfl)) (Zq rfl (QW.neq (.tmp rfl) (.tmp rfl)) (Zn ?_)))))))
    refine J.cond (.tmp rfl) (fun c2 => ?_) (fun c2 => ?_)
    · skip
      have hz : l[k]'hlt ≠ 0 := by simpa using c2
      exact Zs (Zq rfl (QW.move (.tmp rfl)) (Zq rfl (QW.assign (.tmp rfl)) (Zn (J.ret (blkQ.r (thenQ.r (thenQ.r (blkQ.r (thenQ.r (Zr [] (RetEv.one rfl (REv.tmp rfl lr)) rfl ⟨by rw [hs, orL_drop hlt, orI_n hz], rfl⟩))))))))))
    have hz : l[k]'hlt = 0 := by simpa using c2
    refine J.skip (blkQ.n (thenQ.n (J.region_lit (Zq rfl (QW.add (.tmp rfl) .const (w64 (by omega))) (Zq rfl (QW.move (.tmp rfl)) (Zn ?_))))))
    exact ⟨k + 1, ⟨hlt, by rw [hs, orL_drop hlt, hz, orI_z]⟩, by omega, Wk.re (.cons rfl lr (.cons rfl lr (.cons rfl lr (.cons rfl lr .nil)))) (Reown.refl _) (fun _ h => by first | exact h | simp [h])⟩
  have hge : l.length ≤ k := by simpa using c1
  exact J.exit (thenQ.x (thenQ.x (blkQ.hit (thenQ.n (Zs (Zq rfl (QW.move (.tmp rfl)) (Zq rfl (QW.assign (.tmp rfl)) (Zn (J.ret (Zr [] (RetEv.one rfl (REv.tmp rfl lr)) rfl ⟨by rw [hs, orL_end hge], rfl⟩))))))))))
theorem cmpKeys_ok {fr fr2 cl cl2 : Bool} (a b : List Str) (ha : a.length ≤ 8796093022208) (hb : b.length ≤ 8796093022208) : Fn Tryz.prog 127 [.sl fr cl eStr (keysAV a), .sl fr2 cl2 eStr (keysAV b)] (.c (.int .i64 (cmpK a b))) := by
  refine AC.of_J Tryz.func127 rfl Tryz.ntmps127 rfl fun w0 A0 => ?_
  refine Zs (Zq rfl (QW.assign .const) (Zn (J.seq (Zs (Zq rfl (QW.move (.tmp rfl)) (Zq rfl (QW.len_slE sl26 (.tmp rfl) (keysAV_length _)) (Zq rfl (QW.move .const) (Zn (J.block ?_)))))))))
  refine J.loopK (ι := Nat) [0, 1, 9, 10] (fun k => [(11, .c (.int .i64 (k : Int)))]) (fun _ oo => oo) (fun k => k ≤ a.length ∧ k ≤ b.length ∧ cmpK a b = cmpK (a.drop k) (b.drop k)) (fun k => a.length - k) 0 (⟨Nat.zero_le _, Nat.zero_le _, rfl⟩) (Wk.re (.cons rfl lr (.cons rfl lr (.cons rfl lr (.cons rfl lr (.cons rfl lr .nil))))) (Reown.refl _) (fun _ h => by first | exact h | simp [h])) ?_
  intro k ⟨hk, hk2, hs⟩
  refine J.conv (by (try simp only [nl, stepsO, valO, nthO, curO, mrg, AV.cellsOf, splice_zero, splice_succ, Nat.reduceAdd]); rfl) ?_
  refine Zs (Zq rfl (QW.lss (.tmp rfl) (.tmp rfl)) (Zn (J.seq ?_)))
  refine J.cond (.tmp rfl) (fun c1 => ?_) (fun c1 => ?_)
  · skip
    have hlt : k < a.length := by simpa using c1
    refine Zk (J.seq (J.block (Zs (Zq rfl (QW.move (.tmp rfl)) (Zq rfl (QW.index_sl sl26 ty9 rfl (.tmp rfl) (.tmp rfl) rfl (keysAV_getE hlt)) (Zq rfl (QW.load_ref1 ty9 (.tmp rfl) rfl) (Zq rfl (QW.assign (.tmp rfl)) (Zq rfl (QW.assign (.tmp rfl)) (Zn ?_)))))))))
    refine J.seq (Zs (Zq rfl (QW.move (.tmp rfl)) (Zq rfl (QW.move (.tmp rfl)) (Zq rfl (QW.len_slE sl26 (.tmp rfl) (keysAV_length _)) (Zq rfl (QW.geq (.tmp rfl) (.tmp rfl)) (Zn ?_))))))
    refine J.cond (.tmp rfl) (fun c2 => ?_) (fun c2 => ?_)
    · skip
      have hg2 : b.length ≤ k := by simpa using c2
      exact Zs (Zq rfl (QW.assign .const) (Zn (J.ret (thenQ.r (blkQ.r (thenQ.r (thenQ.r (blkQ.r (thenQ.r (Zr [] (RetEv.one rfl (REv.tmp rfl lr)) rfl ⟨by rw [hs, cmpK_gt hlt hg2], rfl⟩))))))))))
    have hlt2 : k < b.length := by simpa using c2
    refine Zk (Zs (Zq rfl (QW.move (.tmp rfl)) (Zq rfl (QW.move (.tmp rfl)) (Zq rfl (QW.index_sl sl26 ty9 rfl (.tmp rfl) (.tmp rfl) rfl (keysAV_getE hlt2)) (Zq rfl (QW.load_ref1 ty9 (.tmp rfl) rfl) (Zq rfl (QW.assign (.tmp rfl)) (Zn (Zs (Zq rfl (QW.move (.tmp rfl)) ?_)))))))))
    refine Zq rfl (QW.move (.tmp rfl)) (Zq rfl (QW.call gofn126 (.cons (.tmp rfl) (.cons (.tmp rfl) .nil)) (cmpStr_ok _ _)) (Zq rfl (QW.assign (.tmp rfl)) (Zn (Zs (Zq rfl (QW.move (.tmp rfl)) (Zq rfl (QW.neq (.tmp rfl) .const) (Zn ?_)))))))
    refine J.cond (.tmp rfl) (fun c3 => ?_) (fun c3 => ?_)
    · skip
      have hz : cmpS (a[k]'hlt) (b[k]'hlt2) ≠ 0 := by simpa using c3
      exact Zs (Zq rfl (QW.move (.tmp rfl)) (Zq rfl (QW.assign (.tmp rfl)) (Zn (J.ret (blkQ.r (thenQ.r (thenQ.r (blkQ.r (thenQ.r (Zr [] (RetEv.one rfl (REv.tmp rfl lr)) rfl ⟨by rw [hs, cmpK_drop hlt hlt2, orI_n hz], rfl⟩))))))))))
    have hz : cmpS (a[k]'hlt) (b[k]'hlt2) = 0 := by simpa using c3
    refine J.skip (blkQ.n (thenQ.n (J.region_lit (Zq rfl (QW.add (.tmp rfl) .const (w64 (by omega))) (Zq rfl (QW.move (.tmp rfl)) (Zn ?_))))))
    exact ⟨k + 1, ⟨hlt, hlt2, by rw [hs, cmpK_drop hlt hlt2, hz, orI_z]⟩, by omega, Wk.re (.cons rfl lr (.cons rfl lr (.cons rfl lr (.cons rfl lr (.cons rfl lr .nil))))) (Reown.refl _) (fun _ h => by first | exact h | simp [h])⟩
  have hge : a.length ≤ k := by simpa using c1
  refine J.exit (thenQ.x (thenQ.x (blkQ.hit (thenQ.n (J.seq (Zs (Zq rfl (QW.move (.tmp rfl)) (Zq rfl (QW.len_slE sl26 (.tmp rfl) (keysAV_length _)) (Zq rfl (QW.move (.tmp rfl)) ?_)))))))))
  refine Zq rfl (QW.len_slE sl26 (.tmp rfl) (keysAV_length _)) (Zq rfl (QW.lss (.tmp rfl) (.tmp rfl)) (Zn ?_))
  refine J.cond (.tmp rfl) (fun c2 => ?_) (fun c2 => ?_)
  · skip
    have hx : a.length < b.length := by simpa using c2
    exact Zs (Zq rfl (QW.assign .const) (Zn (J.ret (thenQ.r (Zr [] (RetEv.one rfl (REv.tmp rfl lr)) rfl ⟨by rw [hs, cmpK_lt hge (by omega)], rfl⟩)))))
  have hx : b.length ≤ a.length := by simpa using c2
  exact Zk (Zs (Zq rfl (QW.assign .const) (Zn (J.ret (Zr [] (RetEv.one rfl (REv.tmp rfl lr)) rfl ⟨by rw [hs, cmpK_eq hge (by omega)], rfl⟩)))))
theorem cmpVals_ok {fr fr2 cl cl2 : Bool} (a b : List V) (ha : a.length ≤ 8796093022208) (hb : b.length ≤ 8796093022208) (ih : ∀ x ∈ a, ∀ y ∈ b, Fn Tryz.prog 99 [.agg (x.cs fr), .agg (y.cs fr2)] (.c (.int .i64 (x.ord y)))) : Fn Tryz.prog 128 [.sl fr cl eV (V.css fr a), .sl fr2 cl2 eV (V.css fr2 b), .c (.func (.func 99) #[] #[])] (.c (.int .i64 (V.ords a b))) := by
  refine AC.of_J Tryz.func128 rfl Tryz.ntmps128 rfl fun w0 A0 => ?_
  refine Zs (Zq rfl (QW.assign .const) (Zn (J.seq (Zs (Zq rfl (QW.move (.tmp rfl)) (Zq rfl (QW.len_slE sl27 (.tmp rfl) wl) (Zq rfl (QW.move .const) (Zn (J.block ?_)))))))))
  refine J.loopK (ι := Nat) [0, 1, 2, 11, 12] (fun k => [(13, .c (.int .i64 (k : Int)))]) (fun _ oo => oo) (fun k => k ≤ a.length ∧ k ≤ b.length ∧ V.ords a b = V.ords (a.drop k) (b.drop k)) (fun k => a.length - k) 0 (⟨Nat.zero_le _, Nat.zero_le _, rfl⟩) (Wk.re (.cons rfl lr (.cons rfl lr (.cons rfl lr (.cons rfl lr (.cons rfl lr (.cons rfl lr .nil)))))) (Reown.refl _) (fun _ h => by first | exact h | simp [h])) ?_
  intro k ⟨hk, hk2, hs⟩
  refine J.conv (by (try simp only [nl, stepsO, valO, nthO, curO, mrg, AV.cellsOf, splice_zero, splice_succ, Nat.reduceAdd]); rfl) ?_
  refine Zs (Zq rfl (QW.lss (.tmp rfl) (.tmp rfl)) (Zn (J.seq ?_)))
  refine J.cond (.tmp rfl) (fun c1 => ?_) (fun c1 => ?_)
  · skip
    have hlt : k < a.length := by simpa using c1
    refine Zk (J.seq (J.block (Zs (Zq rfl (QW.move (.tmp rfl)) (Zq rfl (QW.index_sl sl27 ty29 rfl (.tmp rfl) (.tmp rfl) rfl (V.css_getE _ hlt)) (Zq rfl (QW.load_ref ty29 (.tmp rfl) (take_at0 vl rfl) vl) (JL.alloc z29 rfl rfl fun b8 => Zq rfl (QW.assign (.tmp rfl)) (JL.store_boxF 0 ty29 (.tmp rfl) rfl (.tmp rfl) rfl vl rfl rfl ?_))))))))
    refine Zn (J.seq (Zs (Zq rfl (QW.move (.tmp rfl)) (Zq rfl (QW.move (.tmp rfl)) (Zq rfl (QW.len_slE sl27 (.tmp rfl) wl) (Zq rfl (QW.geq (.tmp rfl) (.tmp rfl)) (Zn ?_)))))))
    refine J.cond (.tmp rfl) (fun c2 => ?_) (fun c2 => ?_)
    · skip
      have hg2 : b.length ≤ k := by simpa using c2
      exact Zs (Zq rfl (QW.assign .const) (Zn (J.ret (thenQ.r (blkQ.r (thenQ.r (thenQ.r (blkQ.r (thenQ.r (Zr [.k] (RetEv.one rfl (REv.tmp rfl lr)) rfl ⟨by rw [hs, ords_gt hlt hg2], rfl⟩))))))))))
    have hlt2 : k < b.length := by simpa using c2
    refine Zk (Zs (Zq rfl (QW.move (.tmp rfl)) (Zq rfl (QW.move (.tmp rfl)) (Zq rfl (QW.index_sl sl27 ty29 rfl (.tmp rfl) (.tmp rfl) rfl (V.css_getE _ hlt2)) (Zq rfl (QW.load_ref ty29 (.tmp rfl) (take_at0 vl rfl) vl) (JL.alloc z29 rfl rfl fun b9 => JL.store_boxF 0 ty29 (.tmp rfl) rfl (.tmp rfl) rfl vl rfl rfl (Zn (Zs ?_))))))))
    refine Zq rfl (QW.move (.tmp rfl)) (Zq rfl (QW.load_box 1 ty29 (.tmp rfl) rfl (take_at vl rfl) vl) (Zq rfl (QW.load_box 0 ty29 (.tmp rfl) rfl (take_at vl rfl) vl) (Zq rfl (QW.callV gofn99 (.tmp rfl) (.cons (.tmp rfl) (.cons (.tmp rfl) .nil)) rfl (ih _ (List.getElem_mem hlt) _ (List.getElem_mem hlt2))) (Zq rfl (QW.assign (.tmp rfl)) (Zn (Zs (Zq rfl (QW.move (.tmp rfl)) (Zq rfl (QW.neq (.tmp rfl) .const) (Zn ?_)))))))))
    refine J.cond (.tmp rfl) (fun c3 => ?_) (fun c3 => ?_)
    · skip
      have hz : (a[k]'hlt).ord (b[k]'hlt2) ≠ 0 := by simpa using c3
      exact Zs (Zq rfl (QW.move (.tmp rfl)) (Zq rfl (QW.assign (.tmp rfl)) (Zn (J.ret (blkQ.r (thenQ.r (thenQ.r (blkQ.r (thenQ.r (Zr [.k, .k] (RetEv.one rfl (REv.tmp rfl lr)) rfl ⟨by rw [hs, ords_drop hlt hlt2, orI_n hz], rfl⟩))))))))))
    have hz : (a[k]'hlt).ord (b[k]'hlt2) = 0 := by simpa using c3
    refine J.skip (blkQ.n (thenQ.n (J.region_lit (Zq rfl (QW.add (.tmp rfl) .const (w64 (by omega))) (Zq rfl (QW.move (.tmp rfl)) (Zn ?_))))))
    exact ⟨k + 1, ⟨hlt, hlt2, by rw [hs, ords_drop hlt hlt2, hz, orI_z]⟩, by omega, Wk.re (.cons rfl lr (.cons rfl lr (.cons rfl lr (.cons rfl lr (.cons rfl lr (.cons rfl lr .nil)))))) (Reown.dropN 2 _ rfl) (fun _ h => by first | exact h | simp [h])⟩
  have hge : a.length ≤ k := by simpa using c1
  refine J.exit (thenQ.x (thenQ.x (blkQ.hit (thenQ.n (J.seq (Zs (Zq rfl (QW.move (.tmp rfl)) (Zq rfl (QW.len_slE sl27 (.tmp rfl) wl) (Zq rfl (QW.move (.tmp rfl)) ?_)))))))))
  refine Zq rfl (QW.len_slE sl27 (.tmp rfl) wl) (Zq rfl (QW.lss (.tmp rfl) (.tmp rfl)) (Zn ?_))
  refine J.cond (.tmp rfl) (fun c2 => ?_) (fun c2 => ?_)
  · skip
    have hx : a.length < b.length := by simpa using c2
    exact Zs (Zq rfl (QW.assign .const) (Zn (J.ret (thenQ.r (Zr [] (RetEv.one rfl (REv.tmp rfl lr)) rfl ⟨by rw [hs, ords_lt hge (by omega)], rfl⟩)))))
  have hx : b.length ≤ a.length := by simpa using c2
  exact Zk (Zs (Zq rfl (QW.assign .const) (Zn (J.ret (Zr [] (RetEv.one rfl (REv.tmp rfl lr)) rfl ⟨by rw [hs, ords_eq hge (by omega)], rfl⟩)))))
end Go.Proofs.YtjhonjdhanlbkaaGreat.J

/- Walks: the order of values. -/
namespace Go.Proofs.YtjhonjdhanlbkaaGreat.J
open Go Go.RowKit
set_option maxRecDepth 10000
set_option maxHeartbeats 4000000
theorem vorder_n  : ∀ (n : Nat) {v u : V} {ys zs : List AV} {fr fr2 : Bool}, Vc fr v ys → Vc fr2 u zs → v.wf → u.wf → v.sz ≤ n →
    Fn Tryz.prog 99 [.agg ys, .agg zs] (.c (.int .i64 (v.ord u))) := by
  intro n
  induction n with
  | zero => intro v u ys zs fr fr2 hv hu hw hw2 h; exact absurd h (by have := V.sz_pos v; omega)
  | succ n ih =>
    intro v u ys zs fr fr2 hv hu hw hw2 hn
    obtain ⟨k, b, t, ks, is⟩ := v
    obtain ⟨k', b', t', ks', is'⟩ := u
    subst hv hu
    obtain ⟨-, hb, -, hk16, hi80, -, hwi⟩ := hw.inv
    obtain ⟨-, hb2, -, hk16', hi80', -, hwi'⟩ := hw2.inv
    have h1 : is.length ≤ 8796093022208 := by unfold reach at hi80; omega
    have h2 : is'.length ≤ 8796093022208 := by unfold reach at hi80'; omega
    have h3 : ks.length ≤ 8796093022208 := by unfold reach at hk16; omega
    have h4 : ks'.length ≤ 8796093022208 := by unfold reach at hk16'; omega
    refine AC.of_J Tryz.func99 rfl Tryz.ntmps99 rfl fun w0 A0 => ?_
    refine Zs (JL.box_agg (.tmp rfl) rfl fun b2 => JL.box_agg (.tmp rfl) rfl fun b3 => Zq rfl (QW.assign .const) (Zn (J.seq (Zs (Zq rfl (QW.field_ptr fo29_0 (.tmp rfl) rfl) (Zq rfl (QW.load_box1 1 ty3 (.tmp rfl) rfl rfl) (Zq rfl (QW.field_ptr fo29_0 (.tmp rfl) rfl) ?_)))))))
    refine Zq rfl (QW.load_box1 0 ty3 (.tmp rfl) rfl rfl) (Zq rfl (QW.call gofn122 (.cons (.tmp rfl) (.cons (.tmp rfl) .nil)) (cmpI_ok _ _)) (Zq rfl (QW.assign (.tmp rfl)) (Zn (Zs (Zq rfl (QW.move (.tmp rfl)) (Zq rfl (QW.neq (.tmp rfl) .const) (Zn ?_)))))))
    refine J.cond (.tmp rfl) (fun c1 => ?_) (fun c1 => ?_)
    · skip
      have hz : cmpI k k' ≠ 0 := by simpa using c1
      exact Zs (Zq rfl (QW.move (.tmp rfl)) (Zq rfl (QW.assign (.tmp rfl)) (Zn (J.ret (thenQ.r (Zr [.k, .k] (RetEv.one rfl (REv.tmp rfl lr)) rfl ⟨by simp only [V.ord]; rw [orI_n hz], rfl⟩))))))
    have hz : cmpI k k' = 0 := by simpa using c1
    refine Zk (J.seq (J.regionX mixed (Zf 0 [] rfl (fun _ => QW.field_ptr fo29_1 (.tmp rfl) rfl) (Zo 1 1 [16] rfl (fun _ ho_ => QW.load_box1 1 ty22 (.tmp rfl) ho_ rfl) (Zf 2 [] rfl (fun _ => QW.field_ptr fo29_1 (.tmp rfl) rfl) (Zo 3 0 [18] rfl (fun _ ho_ => QW.load_box1 0 ty22 (.tmp rfl) ho_ rfl) (Zf 4 [17] rfl (fun _ => QW.assign (.tmp rfl)) (Zf 5 [19] rfl (fun _ => QW.assign (.tmp rfl)) (JX.fin (by kernel_rfl) (by kernel_rfl) fun bs_ => ?_)))))))))
    refine QX.conv (by (try simp only [vlF, bxF, tkM, lvM, Flt.val, Flt.bx, nx, nl, stepsO, valO, nthO, curO, mrg, AV.cellsOf, splice_zero, splice_succ, Nat.reduceAdd]); rfl) ?_
    refine thenQ.n (J.cutK (ι := Nat × Nat) [2, 3, 4] (fun ⟨n1, n2⟩ => [(6, .c (.int .u64 (n1 : Int))), (7, .c (.int .u64 (n2 : Int)))]) (fun ⟨n1, n2⟩ oo => oo) (fun ⟨n1, n2⟩ => n1 = V.numb k b ∧ n2 = V.numb k b') ?_ ?_)
    · skip
      refine Zs (Zq rfl (QW.field_ptr fo29_0 (.tmp rfl) rfl) (Zq rfl (QW.load_box1 1 ty3 (.tmp rfl) rfl rfl) (Zq rfl (QW.eql (.tmp rfl) .const) (Zn ?_))))
      refine J.cond (.tmp rfl) (fun c2 => ?_) (fun c2 => ?_)
      · skip
        have hk2 : k = 2 := by simpa using c2
        refine J.region_lit (Zq rfl (QW.move (.tmp rfl)) (Zq rfl (QW.call gofn123 (.cons (.tmp rfl) .nil) (order_ok _ (by assumption))) ?_))
        refine Zq rfl (QW.move (.tmp rfl)) (Zq rfl (QW.call gofn123 (.cons (.tmp rfl) .nil) (order_ok _ (by assumption))) ?_)
        refine Zq rfl (QW.assign (.tmp rfl)) (Zq rfl (QW.assign (.tmp rfl)) (Zn ?_))
        exact ⟨⟨orderN b, orderN b'⟩, ⟨(if_pos hk2).symm, (if_pos hk2).symm⟩, Wk.re (.cons rfl lr (.cons rfl lr (.cons rfl lr (.cons rfl lr (.cons rfl lr .nil))))) (Reown.refl _) (fun _ h => by first | exact h | simp [h])⟩
      have hk2 : k ≠ 2 := by simpa using c2
      refine Zk ?_
      exact ⟨⟨b, b'⟩, ⟨(if_neg hk2).symm, (if_neg hk2).symm⟩, Wk.re (.cons rfl lr (.cons rfl lr (.cons rfl lr (.cons rfl lr (.cons rfl lr .nil))))) (Reown.refl _) (fun _ h => by first | exact h | simp [h])⟩
    · intro ⟨n1, n2⟩ ⟨hn1, hn2⟩
      refine J.conv (by (try simp only [nl, stepsO, valO, nthO, curO, mrg, AV.cellsOf, splice_zero, splice_succ, Nat.reduceAdd]); rfl) ?_
      refine J.seq (J.regionX mixed (Zf 0 [] rfl (fun _ => QW.move (.tmp rfl)) (Zf 1 [] rfl (fun _ => QW.move (.tmp rfl)) (Zf 2 [27, 28] rfl (fun _ => QW.call gofn125 (.cons (.tmp rfl) (.cons (.tmp rfl) .nil)) (cmpU_ok _ _)) (Zf 3 [] rfl (fun _ => QW.field_ptr fo29_2 (.tmp rfl) rfl) (Zo 4 1 [30] rfl (fun _ ho_ => QW.load_box1 1 ty9 (.tmp rfl) ho_ rfl) (Zf 5 [] rfl (fun _ => QW.field_ptr fo29_2 (.tmp rfl) rfl) (Zo 6 0 [32] rfl (fun _ ho_ => QW.load_box1 0 ty9 (.tmp rfl) ho_ rfl) (Zf 7 [31, 33] rfl (fun _ => QW.call gofn126 (.cons (.tmp rfl) (.cons (.tmp rfl) .nil)) (cmpStr_ok _ _)) ?_)))))))))
      refine Zf 8 [] rfl (fun _ => QW.field_ptr fo29_3 (.tmp rfl) rfl) (Zo 9 1 [35] rfl (fun _ ho_ => QW.load_box1 1 ty26 (.tmp rfl) ho_ rfl) (Zf 10 [] rfl (fun _ => QW.field_ptr fo29_3 (.tmp rfl) rfl) (Zo 11 0 [37] rfl (fun _ ho_ => QW.load_box1 0 ty26 (.tmp rfl) ho_ rfl) (Zf 12 [36, 38] rfl (fun _ => QW.call gofn127 (.cons (.tmp rfl) (.cons (.tmp rfl) .nil)) (cmpKeys_ok ks ks' h3 h4)) (Zf 13 [] rfl (fun _ => QW.field_ptr fo29_4 (.tmp rfl) rfl) (Zo 14 1 [40] rfl (fun _ ho_ => QW.load_box1 1 ty27 (.tmp rfl) ho_ rfl) (Zf 15 [] rfl (fun _ => QW.field_ptr fo29_4 (.tmp rfl) rfl) (Zo 16 0 [42] rfl (fun _ ho_ => QW.load_box1 0 ty27 (.tmp rfl) ho_ rfl) (Zf 17 [41, 43] rfl (fun _ => QW.call gofn128 (.cons (.tmp rfl) (.cons (.tmp rfl) (.cons .func .nil))) (cmpVals_ok is is' h1 h2 (fun x hx y hy => (by obtain ⟨i, hi, rfl⟩ := List.getElem_of_mem hx; exact ih Vc.self Vc.self (hwi _ hx) (hwi' _ hy) (V.sz_get hn hi))))) ?_)))))))))
      refine Zf 18 [29, 34, 39, 44] rfl (fun _ => QW.buildSlice (idx := [0, 1, 2, 3]) (xs := [[.c (.int .i64 (cmpI (n1 : Int) (n2 : Int)))], [.c (.int .i64 (cmpS t t'))], [.c (.int .i64 (cmpK ks ks'))], [.c (.int .i64 (V.ords is is'))]]) sl130 el3 z3 rfl (.cons (.tmp rfl) (.cons (.tmp rfl) (.cons (.tmp rfl) (.cons (.tmp rfl) .nil)))) rfl rfl rfl rfl rfl rfl rfl rfl rfl) (Zf 19 [45] rfl (fun _ => QW.call gofn124 (.cons (.tmp rfl) .nil) (or_ok [(cmpI (n1 : Int) (n2 : Int)), (cmpS t t'), (cmpK ks ks'), (V.ords is is')] (by simp))) ?_)
      refine Zf 20 [46] rfl (fun _ => QW.assign (.tmp rfl)) (JX.fin (by kernel_rfl) (by kernel_rfl) fun bs_ => ?_)
      refine QX.conv (by (try simp only [vlF, bxF, tkM, lvM, Flt.val, Flt.bx, nx, nl, stepsO, valO, nthO, curO, mrg, AV.cellsOf, splice_zero, splice_succ, Nat.reduceAdd]); rfl) ?_
      exact thenQ.n (J.ret (Zr [.k, .k] (RetEv.one rfl (REv.tmp rfl lr)) rfl ⟨by simp only [V.ord]; rw [hz, orI_z, ← hn1, ← hn2]; simp only [orL]; rw [show orI (V.ords is is') 0 = V.ords is is' from orL_one _], rfl⟩))
theorem vorder_ok {v u : V} {ys zs : List AV} {fr fr2 : Bool} (hv : Vc fr v ys) (hu : Vc fr2 u zs) (hw : v.wf) (hw2 : u.wf) : Fn Tryz.prog 99 [.agg ys, .agg zs] (.c (.int .i64 (v.ord u))) := vorder_n _ hv hu hw hw2 (Nat.le_refl _)
end Go.Proofs.YtjhonjdhanlbkaaGreat.J

