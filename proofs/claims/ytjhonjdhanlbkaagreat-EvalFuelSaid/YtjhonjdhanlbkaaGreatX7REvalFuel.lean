/- Texts of this proof, laid together. -/
import Derived.Test.YtjhonjdhanlbkaaGreatX6REvalFuel
/- An error is never 0; what is told of a reckoning. -/
namespace Go.Proofs.YtjhonjdhanlbkaaGreat.J
open Go Go.RowKit
set_option linter.unusedVariables false
set_option linter.unusedSimpArgs false
variable {α β : Type}
def Nz (r : Except Int α) : Prop := ∀ c, r = .error c → c ≠ 0
theorem Nz.ok (v : α) : Nz (.ok v) := fun c h => by cases h
theorem Nz.er {c : Int} (h : c ≠ 0) : Nz (.error c : Except Int α) := fun c' h' => by cases h'; exact h
theorem Nz.ite {p : Prop} [Decidable p] {r q : Except Int α} (h1 : p → Nz r) (h2 : ¬ p → Nz q) : Nz (if p then r else q) := by
  by_cases h : p
  · rw [if_pos h]; exact h1 h
  · rw [if_neg h]; exact h2 h
theorem Nz.bind {r : ER α} {k : α → Int → ER β} (hr : Nz r) (hk : ∀ v f', r = .ok (v, f') → Nz (k v f')) : Nz (bindE r k) := by
  cases r with
  | error c => exact fun c' h => by cases h; exact hr c rfl
  | ok p => exact hk p.1 p.2 rfl
theorem Nz.tru {r : ER V} (h : Nz r) : Nz (truE r) := by
  cases r with
  | error c => exact fun c' h' => by cases h'; exact h c rfl
  | ok p => exact Nz.ite (fun _ => .ok _) fun _ => .er (by decide)
theorem getE_nz (v : V) (s : StT) : Nz (getE v s) := by
  unfold getE; by_cases h : (v.getv [s]).2 = 0
  · rw [if_pos h]; exact .ok _
  · rw [if_neg h]; exact .er h
theorem setE_nz (v : V) (s : StT) (x : V) : Nz (setE v s x) := Nz.ite (fun _ => .ok _) fun _ => .er (by decide)
theorem madeE_nz (v : V) : Nz (madeE v) := Nz.ite (fun _ => .ok _) fun _ => .er (by decide)
theorem one_nz (o : Int) (t : Str) (a : V) : Nz (oneE o t a) := by
  unfold oneE
  repeat' with_reducible refine Nz.ite (fun _ => ?_) (fun _ => ?_)
  all_goals first | exact getE_nz _ _ | exact .ok _ | exact .er (by decide)
theorem two_nz (o : Int) (t : Str) (a b : V) : Nz (twoE o t a b) := by
  unfold twoE
  repeat' with_reducible refine Nz.ite (fun _ => ?_) (fun _ => ?_)
  all_goals first | exact getE_nz _ _ | exact setE_nz _ _ _ | exact .ok _ | exact .er (by decide)
theorem plain_nz {o : Int} {t : Str} {l : List V} (h : o = 23 ∨ l.length = 1 ∨ l.length = 2) : Nz (plainE o t l) := by
  unfold plainE
  refine Nz.ite (fun _ => madeE_nz _) fun h23 => ?_
  match l, h with
  | [a], _ => exact one_nz _ _ _
  | [a, b], _ => exact two_nz _ _ _ _
  | [], h => simp at h; exact absurd h h23
  | _ :: _ :: _ :: _, h => simp at h; exact absurd h h23
theorem map_nz {g : V → Int → ER V} (hg : ∀ x f, Nz (g x f)) : ∀ l f, Nz (mapE g l f)
  | [], f => .ok _
  | x :: r, f => by
    have h1 := hg x f
    rw [mapE]
    cases h : g x f with
    | error c => exact .er (h1 c h)
    | ok p =>
      have h2 := map_nz hg r p.2
      simp only []
      cases h3 : mapE g r p.2 with
      | error c => exact .er (h2 c h3)
      | ok q => exact .ok _
theorem fil_nz {g : V → Int → ER Bool} (hg : ∀ x f, Nz (g x f)) : ∀ l f, Nz (filE g l f)
  | [], f => .ok _
  | x :: r, f => by
    have h1 := hg x f
    rw [filE]
    cases h : g x f with
    | error c => exact .er (h1 c h)
    | ok p =>
      have h2 := fil_nz hg r p.2
      simp only []
      cases h3 : filE g r p.2 with
      | error c => exact .er (h2 c h3)
      | ok q => exact .ok _
theorem fnd_nz {g : V → Int → ER Bool} (hg : ∀ x f, Nz (g x f)) : ∀ l f, Nz (fndE g l f)
  | [], f => .er (by decide)
  | x :: r, f => by
    have h1 := hg x f
    rw [fndE]
    cases h : g x f with
    | error c => exact .er (h1 c h)
    | ok p => exact Nz.ite (fun _ => .ok _) fun _ => fnd_nz hg r p.2
theorem madeF_nz {r : ER (List V)} (h : Nz r) : Nz (madeF r) := by
  unfold madeF
  cases r with
  | error c => exact .er (h c rfl)
  | ok p =>
    have h2 := madeE_nz (.li p.1)
    simp only []
    cases h3 : madeE (.li p.1) with
    | error c => exact .er (h2 c h3)
    | ok q => exact .ok _
theorem over_nz {o : Int} {g : V → Int → ER V} {r : ER V} (hg : ∀ x f, Nz (g x f)) (hr : Nz r) : Nz (overE o g r) := by
  unfold overE
  cases r with
  | error c => exact .er (hr c rfl)
  | ok p => exact Nz.ite (fun _ => .er (by decide)) fun _ => Nz.ite (fun _ => madeF_nz (map_nz hg _ _)) fun _ => Nz.ite (fun _ => madeF_nz (fil_nz (fun x f => Nz.tru (hg x f)) _ _)) fun _ => fnd_nz (fun x f => Nz.tru (hg x f)) _ _
theorem evs_len : ∀ (l : List EX) {s : ScT} {f f' : Int} {vs : List V}, EX.evs l s f = .ok (vs, f') → vs.length = l.length
  | [], s, f, f', vs, h => by rw [EX.evs] at h; cases h; rfl
  | x :: r, s, f, f', vs, h => by
    rw [EX.evs] at h
    cases h1 : x.ev s f with
    | error c => rw [h1] at h; cases h
    | ok p =>
      rw [h1] at h
      simp only [] at h
      cases h2 : EX.evs r s p.2 with
      | error c => rw [h2] at h; cases h
      | ok q =>
        rw [h2] at h; cases h
        simp [evs_len r h2]
mutual
theorem EX.ev_nz : ∀ (e : EX) (s : ScT) (f : Int), e.Fine → Nz (e.ev s f)
  | .mk o b t l, s, f, hf => by
    obtain ⟨h0, h30, h8, ha⟩ := EX.ok_args hf.part
    have hk : ∀ x ∈ l, x.Fine := fun x hx => hf.kid hx
    rw [EX.ev]
    refine Nz.ite (fun _ => .er (by decide)) fun _ => ?_
    refine Nz.ite (fun _ => .ok _) fun n0 => Nz.ite (fun _ => .ok _) fun n1 => Nz.ite (fun _ => .ok _) fun n2 => Nz.ite (fun _ => .ok _) fun n3 => Nz.ite (fun _ => .ok _) fun n4 => Nz.ite (fun _ => .ok _) fun n5 => Nz.ite (fun _ => .ok _) fun n6 => Nz.ite (fun _ => .ok _) fun n7 => ?_
    refine Nz.ite (fun c => EX.evAO_nz false l s _ hk (by omega)) fun n18 => Nz.ite (fun c => EX.evAO_nz true l s _ hk (by omega)) fun n19 => Nz.ite (fun c => EX.evIf_nz l s _ hk (by omega)) fun n21 => Nz.ite (fun c => EX.evOv_nz o l s _ hk (by omega)) fun nov => ?_
    have h1 := EX.evs_nz l s (f - 1) hk
    cases h : EX.evs l s (f - 1) with
    | error c => exact .er (h1 c h)
    | ok p =>
      have h2 := evs_len l h
      have h3 := plain_nz (o := o) (t := t) (l := p.1) (by omega)
      simp only []
      cases h4 : plainE o t p.1 with
      | error c => exact .er (h3 c h4)
      | ok q => exact .ok _
theorem EX.evs_nz : ∀ (l : List EX) (s : ScT) (f : Int), (∀ x ∈ l, x.Fine) → Nz (EX.evs l s f)
  | [], s, f, hf => by rw [EX.evs]; exact .ok _
  | x :: r, s, f, hf => by
    have h1 := EX.ev_nz x s f (hf x (by simp))
    rw [EX.evs]
    cases h : x.ev s f with
    | error c => exact .er (h1 c h)
    | ok p =>
      have h2 := EX.evs_nz r s p.2 (fun z hz => hf z (by simp [hz]))
      simp only []
      cases h3 : EX.evs r s p.2 with
      | error c => exact .er (h2 c h3)
      | ok q => exact .ok _
theorem EX.evAO_nz : ∀ (k : Bool) (l : List EX) (s : ScT) (f : Int), (∀ x ∈ l, x.Fine) → l.length = 2 → Nz (EX.evAO k l s f)
  | k, [], s, f, hf, h2 => by simp at h2
  | k, [_], s, f, hf, h2 => by simp at h2
  | k, x :: y :: _, s, f, hf, h2 => by
    have h1 := Nz.tru (EX.ev_nz x s f (hf x (by simp)))
    rw [EX.evAO]
    cases h : truE (x.ev s f) with
    | error c => exact .er (h1 c h)
    | ok p =>
      refine Nz.ite (fun _ => .ok _) fun _ => ?_
      have h3 := Nz.tru (EX.ev_nz y s p.2 (hf y (by simp)))
      cases h4 : truE (y.ev s p.2) with
      | error c => exact .er (h3 c h4)
      | ok q => exact .ok _
theorem EX.evIf_nz : ∀ (l : List EX) (s : ScT) (f : Int), (∀ x ∈ l, x.Fine) → l.length = 3 → Nz (EX.evIf l s f)
  | [], s, f, hf, h2 => by simp at h2
  | [_], s, f, hf, h2 => by simp at h2
  | [_, _], s, f, hf, h2 => by simp at h2
  | x :: y :: z :: _, s, f, hf, h2 => by
    have h1 := Nz.tru (EX.ev_nz x s f (hf x (by simp)))
    rw [EX.evIf]
    cases h : truE (x.ev s f) with
    | error c => exact .er (h1 c h)
    | ok p => exact Nz.ite (fun _ => EX.ev_nz y s p.2 (hf y (by simp))) fun _ => EX.ev_nz z s p.2 (hf z (by simp))
theorem EX.evOv_nz : ∀ (o : Int) (l : List EX) (s : ScT) (f : Int), (∀ x ∈ l, x.Fine) → l.length = 2 → Nz (EX.evOv o l s f)
  | o, [], s, f, hf, h2 => by simp at h2
  | o, [_], s, f, hf, h2 => by simp at h2
  | o, x :: y :: _, s, f, hf, h2 => by
    rw [EX.evOv]
    exact over_nz (fun it g => EX.ev_nz y { s with it } g (hf y (by simp))) (EX.ev_nz x s f (hf x (by simp)))
end
/-- An error, or a value that came. -/
theorem evalT_cases (e : EX) (s : ScT) (f : Int) : (∃ c, c ≠ 0 ∧ evalT e s f = (.nil, 0, c)) ∨ ∃ v f', e.ev s f = .ok (v, f') ∧ evalT e s f = (v, f', 0) ∧ e.err = 0 ∧ (s.st.err = 0 ∧ s.ev.err = 0 ∧ s.it.err = 0) ∧ 0 ≤ f ∧ f ≤ 4096 := by
  unfold evalT
  by_cases h1 : e.err = 0
  · rw [if_neg (by simp [h1])]
    by_cases h2 : s.st.err = 0
    · rw [if_neg (by simp [h2])]
      by_cases h3 : s.ev.err = 0
      · rw [if_neg (by simp [h3])]
        by_cases h4 : s.it.err = 0
        · rw [if_neg (by simp [h4])]
          by_cases h5 : f < 0 ∨ 4096 < f
          · rw [if_pos h5]; exact .inl ⟨4, by decide, rfl⟩
          · rw [if_neg h5]
            cases h : e.ev s f with
            | error c => exact .inl ⟨c, EX.ev_nz e s f (EX.fine_of h1) c h, by unfold runT; rw [h]⟩
            | ok p => exact .inr ⟨p.1, p.2, rfl, by unfold runT; rw [h], h1, ⟨h2, h3, h4⟩, by omega, by omega⟩
        · rw [if_pos h4]; exact .inl ⟨_, h4, rfl⟩
      · rw [if_pos h3]; exact .inl ⟨_, h3, rfl⟩
    · rw [if_pos h2]; exact .inl ⟨_, h2, rfl⟩
  · rw [if_pos h1]; exact .inl ⟨_, h1, rfl⟩
end Go.Proofs.YtjhonjdhanlbkaaGreat.J

/- The laws of reckoning: the small ones; EvalMay, EvalFuel. -/
namespace Go.Proofs.YtjhonjdhanlbkaaGreat.J
open Go Go.RowKit
set_option linter.unusedVariables false
set_option linter.unusedSimpArgs false
set_option maxRecDepth 10000
set_option maxHeartbeats 4000000
def xeN : EX := .mk 11 0 [] [.mk 3 4607182418800017408 [] [], .mk 3 4611686018427387904 [] []]
theorem xeN_wf : xeN.wf := .mk (by decide) (by decide) (by decide) (by decide) (fun x h => by simp at h; rcases h with rfl | rfl <;> exact .mk (by decide) (by decide) (by decide) (by decide) (fun _ h => by cases h))
def scN : ScT := ⟨.nil, .nil, .nil⟩
theorem scN_wf : scN.st.wf ∧ scN.ev.wf ∧ scN.it.wf := ⟨V.wf_nil, V.wf_nil, V.wf_nil⟩
theorem add12 : arithN .add 4607182418800017408 4611686018427387904 = 4613937818241073152 := by kernel_rfl
theorem evs_cons {x : EX} {r : List EX} {s : ScT} {f f1 f2 : Int} {v : V} {vs : List V} (h : x.ev s f = .ok (v, f1)) (h2 : EX.evs r s f1 = .ok (vs, f2)) : EX.evs (x :: r) s f = .ok (v :: vs, f2) := by
  rw [EX.evs, h]; simp only []; rw [h2]
theorem xeN_ok : evalT xeN scN 5 = (.nu 4613937818241073152, 2, 0) := by
  have h1 : xeN.err = 0 := by kernel_rfl
  have h2 : scN.st.err = 0 ∧ scN.ev.err = 0 ∧ scN.it.err = 0 := by decide
  rw [evalT_r h1 h2 (by decide)]
  have h3 : EX.evs xeN.args scN 4 = .ok ([.nu 4607182418800017408, .nu 4611686018427387904], 2) := by
    show EX.evs [.mk 3 4607182418800017408 [] [], .mk 3 4611686018427387904 [] []] scN 4 = _
    exact evs_cons (f1 := 3) (ev_3 (by decide)) (evs_cons (f1 := 2) (ev_3 (by decide)) (by rw [EX.evs]))
  refine runT_ok ((ev_pl (by decide) (by decide)).trans (plE_ok h3 ?_))
  show plainE 11 [] [.nu 4607182418800017408, .nu 4611686018427387904] = _
  rw [pe11 (by decide)]
  show Except.ok (V.nu (arithN .add 4607182418800017408 4611686018427387904)) = _
  rw [add12]
theorem xeN_le {F : List (Value × AV)} : Le F (.agg [.c (.int .i64 11), .c (.int .u64 0), .c (str []), .sl true true et34 [(EX.mk 3 4607182418800017408 [] []).raw (.slice none 0 0), (EX.mk 3 4611686018427387904 [] []).raw (.slice none 0 0)]]) (.agg (xeN.cs true)) :=
  .aggL (.cons (.refl _) (.cons (.refl _) (.cons (.refl _) (.cons (.slL (fun h => h) rfl (EX.css_sz true xeN.args) (.cons (.refl _) (.cons (.refl _) (.cons (.refl _) (.cons (.nil true false _) (.cons (.refl _) (.cons (.refl _) (.cons (.refl _) (.cons (.nil true false _) .nil))))))))) .nil))))
theorem scN_le {F : List (Value × AV)} : Le F (.agg (zV ++ zV ++ zV)) (.agg scN.cs) :=
  .aggL (.cons (.refl _) (.cons (.refl _) (.cons (.refl _) (.cons (.nil false false _) (.cons (.nil false false _) (.cons (.refl _) (.cons (.refl _) (.cons (.refl _) (.cons (.nil false false _) (.cons (.nil false false _) (.cons (.refl _) (.cons (.refl _) (.cons (.refl _) (.cons (.nil false false _) (.cons (.nil false false _) .nil)))))))))))))))
theorem num15_ok (n : Int) : Fn Tryz.prog 14 [.c (.int .i64 n)] (.c (.int .i64 n)) := by
  refine AC.of_J Tryz.func14 rfl Tryz.ntmps14 rfl fun w0 A0 => ?_
  refine J.seq ?_
  refine J.region_lit ?_
  refine JL.q rfl rfl rfl (QW.assign .const) ?_
  refine JL.nil ?_
  refine thenQ.n ?_
  refine J.seq ?_
  refine J.region_lit ?_
  refine JL.q rfl rfl rfl (QW.move (.tmp rfl)) ?_
  refine JL.q rfl rfl rfl (QW.assign (.tmp rfl)) ?_
  refine JL.nil ?_
  refine thenQ.n ?_
  refine J.ret ?_
  exact ⟨_, selP [] _, _, RetEv.one rfl (REv.tmp rfl (.refl _)), rfl, sel_perm [] _, ⟨rfl, rfl⟩⟩
theorem of15_ok {s : ScT} (hw : s.st.wf ∧ s.ev.wf ∧ s.it.wf) : Fn Tryz.prog 10 [.agg s.cs] (.agg s.cs) := by
  obtain ⟨⟨ka, ua, ta, va, ia⟩, ⟨kb, ub, tb, vb, ib⟩, ⟨kc, uc, tc, vc, ic⟩⟩ := s
  obtain ⟨hw1, hw2, hw3⟩ := hw
  refine AC.of_J Tryz.func10 rfl Tryz.ntmps10 rfl fun w0 A0 => ?_
  refine J.seq ?_
  refine J.region_lit ?_
  refine JL.box_agg (.tmp rfl) rfl fun b1 => ?_
  refine JL.alloc z36 rfl rfl fun b2 => ?_
  refine JL.nil ?_
  refine thenQ.n ?_
  refine J.seq ?_
  refine J.regionX mixed ?_
  refine JX.f 0 [] rfl rfl rfl rfl rfl rfl rfl rfl (fun ow_ => (.q rfl (QW.field_ptr fo31_0 (.tmp rfl) rfl))) ?_
  refine JX.o 1 1 [3] rfl rfl rfl rfl rfl rfl rfl rfl rfl (fun ow_ ho_ => (.q rfl (by first | exact QW.load_box 1 ty29 (.tmp rfl) ho_ rfl rfl | exact QW.load_box 1 ty29 (.tmp rfl) ho_ (take_at (V.cs_length _ _) rfl) (V.cs_length _ _)))) ?_
  refine JX.f 2 [4] rfl rfl rfl rfl rfl rfl rfl rfl (fun ow_ => (.q rfl (QW.call gofn22 (.cons (.tmp rfl) .nil) (copyValue_rd (fr := false) (v := .mk ka ua ta va ia) Vc.self hw1)))) ?_
  refine JX.f 3 [] rfl rfl rfl rfl rfl rfl rfl rfl (fun ow_ => (.q rfl (QW.field_ptr fo31_1 (.tmp rfl) rfl))) ?_
  refine JX.o 4 1 [6] rfl rfl rfl rfl rfl rfl rfl rfl rfl (fun ow_ ho_ => (.q rfl (by first | exact QW.load_box 1 ty29 (.tmp rfl) ho_ rfl rfl | exact QW.load_box 1 ty29 (.tmp rfl) ho_ (take_at (V.cs_length _ _) rfl) (V.cs_length _ _)))) ?_
  refine JX.f 5 [7] rfl rfl rfl rfl rfl rfl rfl rfl (fun ow_ => (.q rfl (QW.call gofn22 (.cons (.tmp rfl) .nil) (copyValue_rd (fr := false) (v := .mk kb ub tb vb ib) Vc.self hw2)))) ?_
  refine JX.f 6 [] rfl rfl rfl rfl rfl rfl rfl rfl (fun ow_ => (.q rfl (QW.field_ptr fo31_2 (.tmp rfl) rfl))) ?_
  refine JX.o 7 1 [9] rfl rfl rfl rfl rfl rfl rfl rfl rfl (fun ow_ ho_ => (.q rfl (by first | exact QW.load_box 1 ty29 (.tmp rfl) ho_ rfl rfl | exact QW.load_box 1 ty29 (.tmp rfl) ho_ (take_at (V.cs_length _ _) rfl) (V.cs_length _ _)))) ?_
  refine JX.f 8 [10] rfl rfl rfl rfl rfl rfl rfl rfl (fun ow_ => (.q rfl (QW.call gofn22 (.cons (.tmp rfl) .nil) (copyValue_rd (fr := false) (v := .mk kc uc tc vc ic) Vc.self hw3)))) ?_
  refine JX.f 9 [5, 8, 11] rfl rfl rfl rfl rfl rfl rfl rfl (fun ow_ => (.q rfl (QW.build (idx := [0, 1, 2]) pl36 z36 rfl (.cons (.tmp rfl) (.cons (.tmp rfl) (.cons (.tmp rfl) .nil))) rfl rfl rfl rfl))) ?_
  refine JX.one 10 [true, true, true, true, true, true, true, true, true, true] rfl (by kernel_rfl) (by kernel_rfl) rfl rfl (by kernel_rfl) rfl fun bs10_ pe_ ex_ => ?_
  refine JL.conv (by (try simp only [vlF, bxF, tkM, lvM, Flt.val, Flt.bx, List.append_assoc, List.take_succ_cons, List.take_zero, List.append_eq, id_eq, stepsO, List.map_cons, List.map_nil, valO, nthO, curO, mrg, List.reverse_cons, List.reverse_nil, List.nil_append, List.cons_append, List.append_nil, List.getElem?_cons_zero, List.getElem?_cons_succ, Option.map_some, Option.getD_some, List.set_cons_zero, List.set_cons_succ, AV.cellsOf, splice_zero, splice_succ, Nat.zero_add, Nat.reduceAdd]); rfl) ?_
  first | refine JL.store_boxF 0 ty36 (.tmp rfl) rfl (.tmp rfl) (by first | rfl | assumption) (rfl) (rfl) rfl ?_ | refine JL.store_boxF 0 ty36 (.tmp rfl) rfl (.tmp rfl) (by first | rfl | assumption) (rfl) (ScT.cs_len _) rfl ?_ | refine JL.store_boxF 0 ty36 (.tmp rfl) rfl (.tmp rfl) (by first | rfl | assumption) (ScT.cs_len _) (rfl) rfl ?_ | refine JL.store_boxF 0 ty36 (.tmp rfl) rfl (.tmp rfl) (by first | rfl | assumption) (ScT.cs_len _) (ScT.cs_len _) rfl ?_ | refine JL.store_box 0 ty36 (.tmp rfl) rfl (.tmp rfl) (by first | rfl | assumption) rfl rfl rfl rfl ?_ | refine JL.store_box 0 ty36 (.tmp rfl) rfl (.tmp rfl) (by first | rfl | assumption) (ScT.cs_len _) rfl rfl rfl ?_
  refine JL.nil ?_
  refine thenQ.n ⟨[], _, rfl, rfl, rfl, rfl, rfl, Reown.tkN 2 rfl, trivial, trivial, ?_⟩
  refine JX.conv (S' := [10, 9, 8, 7, 6, 5, 4, 3, 2, 1, 0]) rfl (by (try simp only [lvM]); rfl) (by (try simp only [vlF, bxF, tkM, lvM, Flt.val, Flt.bx, List.append_assoc, List.take_succ_cons, List.take_zero, List.append_eq, id_eq, stepsO, List.map_cons, List.map_nil, valO, nthO, curO, mrg, List.reverse_cons, List.reverse_nil, List.nil_append, List.cons_append, List.append_nil, List.getElem?_cons_zero, List.getElem?_cons_succ, Option.map_some, Option.getD_some, List.set_cons_zero, List.set_cons_succ, AV.cellsOf, splice_zero, splice_succ, Nat.zero_add, Nat.reduceAdd]); rfl) ?_
  refine JX.fin (by kernel_rfl) (by kernel_rfl) fun bs_ => ?_
  refine QX.conv (by (try simp only [vlF, bxF, tkM, lvM, Flt.val, Flt.bx, List.append_assoc, List.take_succ_cons, List.take_zero, List.append_eq, id_eq, stepsO, List.map_cons, List.map_nil, valO, nthO, curO, mrg, List.reverse_cons, List.reverse_nil, List.nil_append, List.cons_append, List.append_nil, List.getElem?_cons_zero, List.getElem?_cons_succ, Option.map_some, Option.getD_some, List.set_cons_zero, List.set_cons_succ, AV.cellsOf, splice_zero, splice_succ, Nat.zero_add, Nat.reduceAdd]); rfl) ?_
  refine thenQ.n ?_
  refine J.ret ?_
  exact ⟨_, selP [.k, .k] _, _, RetEv.one rfl (by first | exact REv.cell 0 ty36 rfl rfl rfl rfl (.aggL (.cons (.refl _) (.cons (.refl _) (.cons (.refl _) (.cons (keys_le true false (fun h => by cases h) _) (.cons (items_le true false (fun h => by cases h) _) (.cons (.refl _) (.cons (.refl _) (.cons (.refl _) (.cons (keys_le true false (fun h => by cases h) _) (.cons (items_le true false (fun h => by cases h) _) (.cons (.refl _) (.cons (.refl _) (.cons (.refl _) (.cons (keys_le true false (fun h => by cases h) _) (.cons (items_le true false (fun h => by cases h) _) (.nil))))))))))))))))) | exact REv.cell 0 ty36 rfl rfl (take_at (ScT.cs_len _) rfl) (ScT.cs_len _) (.aggL (.cons (.refl _) (.cons (.refl _) (.cons (.refl _) (.cons (keys_le true false (fun h => by cases h) _) (.cons (items_le true false (fun h => by cases h) _) (.cons (.refl _) (.cons (.refl _) (.cons (.refl _) (.cons (keys_le true false (fun h => by cases h) _) (.cons (items_le true false (fun h => by cases h) _) (.cons (.refl _) (.cons (.refl _) (.cons (.refl _) (.cons (keys_le true false (fun h => by cases h) _) (.cons (items_le true false (fun h => by cases h) _) (.nil)))))))))))))))))), rfl, sel_perm [.k, .k] _, ⟨rfl, rfl⟩⟩
theorem alive15_ok : Fn Tryz.prog 17 [] (.c (.bool true)) := by
  refine AC.of_J Tryz.func17 rfl Tryz.ntmps17 rfl fun w0 A0 => ?_
  refine J.seq ?_
  refine J.region_lit ?_
  refine JL.q rfl rfl rfl (QW.assign .const) ?_
  refine JL.nil ?_
  refine thenQ.n ?_
  refine J.seq ?_
  refine J.region_lit ?_
  refine JL.q rfl rfl rfl (QW.assign .const) ?_
  refine JL.q rfl rfl rfl (QW.assign .const) ?_
  refine JL.nil ?_
  refine thenQ.n ?_
  refine J.seq ?_
  refine J.region_lit ?_
  refine JL.q rfl rfl rfl (QW.move (.tmp rfl)) ?_
  refine JL.q rfl rfl rfl (QW.build (idx := [0, 1]) pl25 z25 rfl (.cons .const (.cons (.tmp rfl) .nil)) rfl rfl rfl rfl) ?_
  refine JL.q rfl rfl rfl (QW.move (.tmp rfl)) ?_
  refine JL.q rfl rfl rfl (QW.build (idx := [0, 1]) pl25 z25 rfl (.cons .const (.cons (.tmp rfl) .nil)) rfl rfl rfl rfl) ?_
  refine JL.q rfl rfl rfl (QW.buildSlice (idx := [0, 1]) (xs := [(EX.mk 3 4607182418800017408 [] []).raw (.slice none 0 0), (EX.mk 3 4611686018427387904 [] []).raw (.slice none 0 0)]) sl23 el25 z25 rfl (.cons (.tmp rfl) (.cons (.tmp rfl) .nil)) rfl rfl rfl rfl rfl rfl rfl rfl rfl) ?_
  refine JL.q rfl rfl rfl (QW.build (idx := [0, 3]) pl25 z25 rfl (.cons .const (.cons (.tmp rfl) .nil)) rfl rfl rfl rfl) ?_
  refine JL.q rfl rfl rfl (QW.call gofn9 (.cons (Ev.le (.tmp rfl) (xeN_le)) .nil) (of14_ok (fr := true) (v := xeN) Xc.self xeN_wf)) ?_
  refine JL.q rfl rfl rfl (QW.build (idx := []) pl36 z36 rfl .nil rfl rfl rfl rfl) ?_
  refine JL.q rfl rfl rfl (QW.call gofn11 (.cons (.tmp rfl) (.cons (Ev.le (.tmp rfl) (scN_le)) (.cons .const .nil))) (xeN_ok ▸ eval_ok (fr := true) (e := xeN) Xc.self xeN_wf (s := scN) scN_wf (f := 5) (by decide))) ?_
  refine JL.q rfl rfl rfl (QW.move (.tmp rfl)) ?_
  refine JL.q rfl rfl rfl (QW.extract (.tmp rfl) rfl) ?_
  refine JL.q rfl rfl rfl (QW.extract (.tmp rfl) rfl) ?_
  refine JL.q rfl rfl rfl (QW.extract (.tmp rfl) rfl) ?_
  refine JL.alloc z29 rfl rfl fun b3 => ?_
  first | refine JL.store_boxF 0 ty29 (.tmp rfl) rfl (.tmp rfl) (by first | rfl | assumption) (rfl) (rfl) rfl ?_ | refine JL.store_boxF 0 ty29 (.tmp rfl) rfl (.tmp rfl) (by first | rfl | assumption) (rfl) (V.cs_length _ _) rfl ?_ | refine JL.store_boxF 0 ty29 (.tmp rfl) rfl (.tmp rfl) (by first | rfl | assumption) (V.cs_length _ _) (rfl) rfl ?_ | refine JL.store_boxF 0 ty29 (.tmp rfl) rfl (.tmp rfl) (by first | rfl | assumption) (V.cs_length _ _) (V.cs_length _ _) rfl ?_ | refine JL.store_box 0 ty29 (.tmp rfl) rfl (.tmp rfl) (by first | rfl | assumption) rfl rfl rfl rfl ?_ | refine JL.store_box 0 ty29 (.tmp rfl) rfl (.tmp rfl) (by first | rfl | assumption) (V.cs_length _ _) rfl rfl rfl ?_
  refine JL.q rfl rfl rfl (QW.assign (.tmp rfl)) ?_
  refine JL.q rfl rfl rfl (QW.assign (.tmp rfl)) ?_
  refine JL.nil ?_
  refine thenQ.n ?_
  refine J.seq ?_
  refine J.region_lit ?_
  refine JL.q rfl rfl rfl (QW.move (.tmp rfl)) ?_
  refine JL.q rfl rfl rfl (QW.call gofn14 (.cons (.tmp rfl) .nil) (num15_ok _)) ?_
  refine JL.q rfl rfl rfl (QW.eql (.tmp rfl) .const) ?_
  refine JL.q rfl rfl rfl (QW.move (.tmp rfl)) ?_
  refine JL.g rfl rfl rfl rfl rfl (fun hg => (QW.field_ptr fo29_0 (.tmp rfl) rfl)) ?_
  refine JL.g rfl rfl rfl rfl rfl (fun hg => (QW.load_box1 0 ty3 (.when rfl hg) rfl rfl)) ?_
  refine JL.g rfl rfl rfl rfl rfl (fun hg => (QW.eql (.when rfl hg) .const)) ?_
  refine JL.q rfl rfl rfl (QW.pick_and (.tmp rfl) (.tmp rfl)) ?_
  refine JL.q rfl rfl rfl (QW.move (.tmp rfl)) ?_
  refine JL.g rfl rfl rfl rfl rfl (fun hg => (QW.field_ptr fo29_1 (.tmp rfl) rfl)) ?_
  refine JL.g rfl rfl rfl rfl rfl (fun hg => (QW.load_box1 0 ty22 (.when rfl hg) rfl rfl)) ?_
  refine JL.g rfl rfl rfl rfl rfl (fun hg => (QW.eql (.when rfl hg) .const)) ?_
  refine JL.q rfl rfl rfl (QW.pick_and (.tmp rfl) (.tmp rfl)) ?_
  refine JL.q rfl rfl rfl (QW.move (.tmp rfl)) ?_
  refine JL.g rfl rfl rfl rfl rfl (fun hg => (QW.move (.tmp rfl))) ?_
  refine JL.g rfl rfl rfl rfl rfl (fun hg => (QW.eql (.when rfl hg) .const)) ?_
  refine JL.q rfl rfl rfl (QW.pick_and (.tmp rfl) (.tmp rfl)) ?_
  refine JL.q rfl rfl rfl (QW.assign (.tmp rfl)) ?_
  refine JL.nil ?_
  refine thenQ.n ?_
  refine J.ret ?_
  exact ⟨_, selP [.k] _, _, RetEv.one rfl (REv.tmp rfl (.refl _)), rfl, sel_perm [.k] _, ⟨rfl, rfl⟩⟩
end Go.Proofs.YtjhonjdhanlbkaaGreat.J

/- EvalMay. -/
namespace Go.Proofs.YtjhonjdhanlbkaaGreat.J
open Go Go.RowKit
set_option linter.unusedVariables false
set_option linter.unusedSimpArgs false
set_option maxRecDepth 10000
set_option maxHeartbeats 4000000
theorem evalT_wf {e : EX} {s : ScT} (hew : e.wf) (hw : s.st.wf ∧ s.ev.wf ∧ s.it.wf) (f : Int) : (evalT e s f).1.wf ∧ ((evalT e s f).2.2 ≠ 0 → evalT e s f = (.nil, 0, (evalT e s f).2.2)) ∧ ((evalT e s f).2.2 = 0 → (evalT e s f).1.err = 0 ∧ 0 ≤ (evalT e s f).2.1 ∧ (evalT e s f).2.1 < f) := by
  rcases evalT_cases e s f with ⟨c, hc, h⟩ | ⟨v, f', h1, h, h2, h3, h4, h5⟩
  · rw [h]; exact ⟨V.wf_nil, fun _ => rfl, fun h => absurd h hc⟩
  · obtain ⟨a1, a2, a3⟩ := EX.ev_good e s f (EX.fine_of h2) hew (ScT.good_of hw h3) v f' h1
    rw [h]
    exact ⟨a1.wf, fun h => absurd rfl h, fun _ => ⟨a1.err, a3, by show f' < f; omega⟩⟩
end Go.Proofs.YtjhonjdhanlbkaaGreat.J

/- EvalFuel. -/
namespace Go.Proofs.YtjhonjdhanlbkaaGreat.J
open Go Go.RowKit
set_option linter.unusedVariables false
set_option linter.unusedSimpArgs false
set_option maxRecDepth 10000
set_option maxHeartbeats 4000000
theorem evalT_fuel {e : EX} {s : ScT} (hew : e.wf) (hw : s.st.wf ∧ s.ev.wf ∧ s.it.wf) {f : Int} (h : (evalT e s f).2.2 = 0) : 0 ≤ f ∧ f ≤ 4096 ∧ 0 ≤ (evalT e s f).2.1 ∧ (evalT e s f).2.1 < f ∧
    (∀ d, 0 ≤ d → f + d ≤ 4096 → evalT e s (f + d) = ((evalT e s f).1, (evalT e s f).2.1 + d, 0)) ∧ evalT e s (f - (evalT e s f).2.1) = ((evalT e s f).1, 0, 0) ∧ evalT e s (f - (evalT e s f).2.1 - 1) = (.nil, 0, 83) := by
  rcases evalT_cases e s f with ⟨c, hc, h1⟩ | ⟨v, f', h1, h2, h3, h4, h5, h6⟩
  · rw [h1] at h; exact absurd h hc
  · obtain ⟨a1, a2, a3⟩ := EX.ev_good e s f (EX.fine_of h3) hew (ScT.good_of hw h4) v f' h1
    obtain ⟨b1, b2⟩ := EX.ev_sh e s f v f' h1
    rw [h2]
    refine ⟨h5, h6, a3, by show f' < f; omega, fun d hd hf => ?_, ?_, ?_⟩
    · rw [evalT_r h3 h4 (by omega)]; exact runT_ok ((b2 d).1 (by omega))
    · show evalT e s (f - f') = _
      rw [evalT_r h3 h4 (by omega)]
      have := (b2 (-f')).1 (by omega)
      rw [show f' + -f' = 0 by omega] at this
      exact runT_ok this
    · show evalT e s (f - f' - 1) = _
      rw [evalT_r h3 h4 (by omega), show f - f' - 1 = f + (-f' - 1) by omega]
      exact runT_er ((b2 (-f' - 1)).2 (by omega) (by omega))
theorem more_rng {f m : Int} (h : 0 ≤ f ∧ f ≤ 4096) : 0 ≤ (m.tmod (4097 - f) + 4097 - f).tmod (4097 - f) ∧ (m.tmod (4097 - f) + 4097 - f).tmod (4097 - f) < 4097 - f := by
  have h1 := Int.tmod_lt_of_pos m (b := 4097 - f) (by omega)
  have h2 : -(4097 - f) < m.tmod (4097 - f) := Int.lt_tmod_of_pos m (by omega)
  exact ⟨Int.tmod_nonneg _ (by omega), Int.tmod_lt_of_pos _ (by omega)⟩
theorem tmod_rng {f m : Int} (h : 0 ≤ f ∧ f ≤ 4096) : -(4097 - f) < m.tmod (4097 - f) ∧ m.tmod (4097 - f) < 4097 - f := ⟨Int.lt_tmod_of_pos m (by omega), Int.tmod_lt_of_pos m (by omega)⟩
theorem evalFuel_ok {e : EX} {s : ScT} {f m : Int} (hew : e.wf) (hw : s.st.wf ∧ s.ev.wf ∧ s.it.wf) (h64 : -9223372036854775808 ≤ f ∧ f ≤ 9223372036854775807) : Fn Tryz.prog 5 [.agg (e.cs false), .agg s.cs, .c (.int .i64 f), .c (.int .i64 m)] (.c (.bool true)) := by
  obtain ⟨w1, w2, w3⟩ := evalT_wf hew hw f
  refine AC.of_J Tryz.func5 rfl Tryz.ntmps5 rfl fun w0 A0 => ?_
  refine J.seq ?_
  refine J.region_lit ?_
  refine JL.box_agg (.tmp rfl) rfl fun b4 => ?_
  refine JL.box_agg (.tmp rfl) rfl fun b5 => ?_
  refine JL.q rfl rfl rfl (QW.assign .const) ?_
  refine JL.nil ?_
  refine thenQ.n ?_
  refine J.seq ?_
  refine J.seq ?_
  refine J.region_lit ?_
  refine JL.q rfl rfl rfl (QW.call gofn17 .nil (alive15_ok)) ?_
  refine JL.q rfl rfl rfl (QW.not (.tmp rfl)) ?_
  refine JL.nil ?_
  refine thenQ.n ?_
  refine J.cond (.tmp rfl) (fun c1 => ?_) (fun c1 => ?_)
  · skip
    exact absurd c1 (by simp)
    --closed
  skip
  refine J.skip ?_
  refine thenQ.n ?_
  refine J.seq ?_
  refine J.regionX mixed ?_
  refine JX.o 0 1 [] rfl rfl rfl rfl rfl rfl rfl rfl rfl (fun ow_ ho_ => (.q rfl (by first | exact QW.load_box 1 ty25 (.tmp rfl) ho_ rfl rfl | exact QW.load_box 1 ty25 (.tmp rfl) ho_ (take_at (EX.cs_length _ _) rfl) (EX.cs_length _ _)))) ?_
  refine JX.f 1 [24] rfl rfl rfl rfl rfl rfl rfl rfl (fun ow_ => (.q rfl (QW.call gofn9 (.cons (.tmp rfl) .nil) (of14_ok Xc.self hew)))) ?_
  refine JX.o 2 0 [] rfl rfl rfl rfl rfl rfl rfl rfl rfl (fun ow_ ho_ => (.q rfl (by first | exact QW.load_box 0 ty31 (.tmp rfl) ho_ rfl rfl | exact QW.load_box 0 ty31 (.tmp rfl) ho_ (take_at (ScT.cs_len _) rfl) (ScT.cs_len _)))) ?_
  refine JX.f 3 [26] rfl rfl rfl rfl rfl rfl rfl rfl (fun ow_ => (.q rfl (QW.call gofn10 (.cons (.tmp rfl) .nil) (of15_ok hw)))) ?_
  refine JX.f 4 [] rfl rfl rfl rfl rfl rfl rfl rfl (fun ow_ => (.q rfl (QW.move (.tmp rfl)))) ?_
  refine JX.f 5 [25, 27, 28] rfl rfl rfl rfl rfl rfl rfl rfl (fun ow_ => (.q rfl (QW.call gofn11 (.cons (.tmp rfl) (.cons (.tmp rfl) (.cons (.tmp rfl) .nil))) (eval_ok (e := e) Xc.self hew hw h64)))) ?_
  refine JX.f 6 [29] rfl rfl rfl rfl rfl rfl rfl rfl (fun ow_ => (.q rfl (QW.move (.tmp rfl)))) ?_
  refine JX.f 7 [23] rfl rfl rfl rfl rfl rfl rfl rfl (fun ow_ => (.q rfl (QW.extract (.tmp rfl) rfl))) ?_
  refine JX.f 8 [23] rfl rfl rfl rfl rfl rfl rfl rfl (fun ow_ => (.q rfl (QW.extract (.tmp rfl) rfl))) ?_
  refine JX.f 9 [23] rfl rfl rfl rfl rfl rfl rfl rfl (fun ow_ => (.q rfl (QW.extract (.tmp rfl) rfl))) ?_
  refine JX.a 10 rfl (AllocOp.mk z29 rfl) rfl rfl rfl rfl rfl ?_
  refine JX.one 11 [true, false, false, true, true, true, true, true, true, true, true] rfl (by kernel_rfl) (by kernel_rfl) rfl rfl (by kernel_rfl) rfl fun bs11_ pe_ ex_ => ?_
  refine JL.conv (by (try simp only [vlF, bxF, tkM, lvM, Flt.val, Flt.bx, List.append_assoc, List.take_succ_cons, List.take_zero, List.append_eq, id_eq, stepsO, List.map_cons, List.map_nil, valO, nthO, curO, mrg, List.reverse_cons, List.reverse_nil, List.nil_append, List.cons_append, List.append_nil, List.getElem?_cons_zero, List.getElem?_cons_succ, Option.map_some, Option.getD_some, List.set_cons_zero, List.set_cons_succ, AV.cellsOf, splice_zero, splice_succ, Nat.zero_add, Nat.reduceAdd]); rfl) ?_
  first | refine JL.store_boxF 2 ty29 (.tmp rfl) rfl (.tmp rfl) (by first | rfl | assumption) (rfl) (rfl) rfl ?_ | refine JL.store_boxF 2 ty29 (.tmp rfl) rfl (.tmp rfl) (by first | rfl | assumption) (rfl) (V.cs_length _ _) rfl ?_ | refine JL.store_boxF 2 ty29 (.tmp rfl) rfl (.tmp rfl) (by first | rfl | assumption) (V.cs_length _ _) (rfl) rfl ?_ | refine JL.store_boxF 2 ty29 (.tmp rfl) rfl (.tmp rfl) (by first | rfl | assumption) (V.cs_length _ _) (V.cs_length _ _) rfl ?_ | refine JL.store_box 2 ty29 (.tmp rfl) rfl (.tmp rfl) (by first | rfl | assumption) rfl rfl rfl rfl ?_ | refine JL.store_box 2 ty29 (.tmp rfl) rfl (.tmp rfl) (by first | rfl | assumption) (V.cs_length _ _) rfl rfl rfl ?_
  refine JL.nil ?_
  refine thenQ.n ⟨[], _, rfl, rfl, rfl, rfl, rfl, Reown.tkN 3 rfl, trivial, ⟨trivial, ⟨trivial, trivial⟩⟩, ?_⟩
  refine JX.conv (S' := [11, 10, 7, 6, 5, 4, 3, 2, 1, 0]) rfl (by (try simp only [lvM]); rfl) (by (try simp only [vlF, bxF, tkM, lvM, Flt.val, Flt.bx, List.append_assoc, List.take_succ_cons, List.take_zero, List.append_eq, id_eq, stepsO, List.map_cons, List.map_nil, valO, nthO, curO, mrg, List.reverse_cons, List.reverse_nil, List.nil_append, List.cons_append, List.append_nil, List.getElem?_cons_zero, List.getElem?_cons_succ, Option.map_some, Option.getD_some, List.set_cons_zero, List.set_cons_succ, AV.cellsOf, splice_zero, splice_succ, Nat.zero_add, Nat.reduceAdd]); rfl) ?_
  refine JX.f 12 [31] rfl rfl rfl rfl rfl rfl rfl rfl (fun ow_ => (.q rfl (QW.assign (.tmp rfl)))) ?_
  refine JX.f 13 [32] rfl rfl rfl rfl rfl rfl rfl rfl (fun ow_ => (.q rfl (QW.assign (.tmp rfl)))) ?_
  refine JX.fin (by kernel_rfl) (by kernel_rfl) fun bs_ => ?_
  refine QX.conv (by (try simp only [vlF, bxF, tkM, lvM, Flt.val, Flt.bx, List.append_assoc, List.take_succ_cons, List.take_zero, List.append_eq, id_eq, stepsO, List.map_cons, List.map_nil, valO, nthO, curO, mrg, List.reverse_cons, List.reverse_nil, List.nil_append, List.cons_append, List.append_nil, List.getElem?_cons_zero, List.getElem?_cons_succ, Option.map_some, Option.getD_some, List.set_cons_zero, List.set_cons_succ, AV.cellsOf, splice_zero, splice_succ, Nat.zero_add, Nat.reduceAdd]); rfl) ?_
  refine thenQ.n ?_
  refine J.seq ?_
  refine J.seq ?_
  refine J.region_lit ?_
  refine JL.q rfl rfl rfl (QW.move (.tmp rfl)) ?_
  refine JL.q rfl rfl rfl (QW.call gofn14 (.cons (.tmp rfl) .nil) (num15_ok _)) ?_
  refine JL.q rfl rfl rfl (QW.neq (.tmp rfl) .const) ?_
  refine JL.nil ?_
  refine thenQ.n ?_
  refine J.cond (.tmp rfl) (fun c2 => ?_) (fun c2 => ?_)
  · skip
    have hbad : (evalT e s f).2.2 ≠ 0 := by simpa using c2
    refine J.seq ?_
    refine J.region_lit ?_
    refine JL.q rfl rfl rfl (QW.move (.tmp rfl)) ?_
    refine JL.q rfl rfl rfl (QW.eql (.tmp rfl) .const) ?_
    refine JL.q rfl rfl rfl (QW.assign (.tmp rfl)) ?_
    refine JL.nil ?_
    refine thenQ.n ?_
    refine J.ret ?_
    refine thenQ.r ?_
    exact ⟨_, selP [.k, .k, .k] _, _, RetEv.one rfl (REv.tmp rfl (.refl _)), rfl, sel_perm [.k, .k, .k] _, ⟨ret_b (by rw [w2 hbad]; simp), rfl⟩⟩
  have hgo : (evalT e s f).2.2 = 0 := by simpa using c2
  obtain ⟨g1, g2, g3, g4, g5, g6, g7⟩ := evalT_fuel hew hw hgo
  have t1 := tmod_rng (m := m) ⟨g1, g2⟩
  have t2 := more_rng (m := m) ⟨g1, g2⟩
  obtain ⟨q, hq⟩ : ∃ q, m.tmod (4097 - f) = q := ⟨_, rfl⟩
  rw [hq] at t1 t2
  obtain ⟨d, hd⟩ : ∃ d, (q + 4097 - f).tmod (4097 - f) = d := ⟨_, rfl⟩
  rw [hd] at t2
  obtain ⟨L, hL⟩ : ∃ L, (evalT e s f).2.1 = L := ⟨_, rfl⟩
  have g5d := g5 d (by omega) (by omega)
  rw [hL] at g3 g4 g5d g6 g7
  refine J.skip ?_
  refine thenQ.n ?_
  refine J.seq ?_
  refine J.region_lit ?_
  refine JL.q rfl rfl rfl (QW.move (.tmp rfl)) ?_
  refine JL.q rfl rfl rfl (QW.move (.tmp rfl)) ?_
  refine JL.q rfl rfl rfl (QW.sub .const (.tmp rfl) (c := 4097 - f) (w64 (by omega))) ?_
  refine JL.q rfl rfl rfl (QW.rem (.tmp rfl) (.tmp rfl) (by omega) (c := q) hq) ?_
  refine JL.q rfl rfl rfl (QW.add (.tmp rfl) .const (c := q + 4097) (w64 (by omega))) ?_
  refine JL.q rfl rfl rfl (QW.move (.tmp rfl)) ?_
  refine JL.q rfl rfl rfl (QW.sub (.tmp rfl) (.tmp rfl) (c := q + 4097 - f) (w64 (by omega))) ?_
  refine JL.q rfl rfl rfl (QW.move (.tmp rfl)) ?_
  refine JL.q rfl rfl rfl (QW.sub .const (.tmp rfl) (c := 4097 - f) (w64 (by omega))) ?_
  refine JL.q rfl rfl rfl (QW.rem (.tmp rfl) (.tmp rfl) (by omega) (c := d) hd) ?_
  refine JL.q rfl rfl rfl (QW.assign (.tmp rfl)) ?_
  refine JL.nil ?_
  refine thenQ.n ?_
  refine J.seq ?_
  refine J.regionX mixed ?_
  refine JX.o 0 1 [] rfl rfl rfl rfl rfl rfl rfl rfl rfl (fun ow_ ho_ => (.q rfl (by first | exact QW.load_box 1 ty25 (.tmp rfl) ho_ rfl rfl | exact QW.load_box 1 ty25 (.tmp rfl) ho_ (take_at (EX.cs_length _ _) rfl) (EX.cs_length _ _)))) ?_
  refine JX.f 1 [49] rfl rfl rfl rfl rfl rfl rfl rfl (fun ow_ => (.q rfl (QW.call gofn9 (.cons (.tmp rfl) .nil) (of14_ok Xc.self hew)))) ?_
  refine JX.o 2 0 [] rfl rfl rfl rfl rfl rfl rfl rfl rfl (fun ow_ ho_ => (.q rfl (by first | exact QW.load_box 0 ty31 (.tmp rfl) ho_ rfl rfl | exact QW.load_box 0 ty31 (.tmp rfl) ho_ (take_at (ScT.cs_len _) rfl) (ScT.cs_len _)))) ?_
  refine JX.f 3 [51] rfl rfl rfl rfl rfl rfl rfl rfl (fun ow_ => (.q rfl (QW.call gofn10 (.cons (.tmp rfl) .nil) (of15_ok hw)))) ?_
  refine JX.f 4 [] rfl rfl rfl rfl rfl rfl rfl rfl (fun ow_ => (.q rfl (QW.move (.tmp rfl)))) ?_
  refine JX.f 5 [] rfl rfl rfl rfl rfl rfl rfl rfl (fun ow_ => (.q rfl (QW.move (.tmp rfl)))) ?_
  refine JX.f 6 [53, 54] rfl rfl rfl rfl rfl rfl rfl rfl (fun ow_ => (.q rfl (QW.add (.tmp rfl) (.tmp rfl) (c := f + d) (w64 (by omega))))) ?_
  refine JX.f 7 [50, 52, 55] rfl rfl rfl rfl rfl rfl rfl rfl (fun ow_ => (.q rfl (QW.call gofn11 (.cons (.tmp rfl) (.cons (.tmp rfl) (.cons (.tmp rfl) .nil))) (g5d ▸ eval_ok (e := e) (f := f + d) Xc.self hew hw (by omega))))) ?_
  refine JX.f 8 [56] rfl rfl rfl rfl rfl rfl rfl rfl (fun ow_ => (.q rfl (QW.move (.tmp rfl)))) ?_
  refine JX.f 9 [48] rfl rfl rfl rfl rfl rfl rfl rfl (fun ow_ => (.q rfl (QW.extract (.tmp rfl) rfl))) ?_
  refine JX.f 10 [48] rfl rfl rfl rfl rfl rfl rfl rfl (fun ow_ => (.q rfl (QW.extract (.tmp rfl) rfl))) ?_
  refine JX.f 11 [48] rfl rfl rfl rfl rfl rfl rfl rfl (fun ow_ => (.q rfl (QW.extract (.tmp rfl) rfl))) ?_
  refine JX.a 12 rfl (AllocOp.mk z29 rfl) rfl rfl rfl rfl rfl ?_
  refine JX.one 13 [true, false, false, true, true, true, true, true, true, true, true, true, true] rfl (by kernel_rfl) (by kernel_rfl) rfl rfl (by kernel_rfl) rfl fun bs13_ pe_ ex_ => ?_
  refine JL.conv (by (try simp only [vlF, bxF, tkM, lvM, Flt.val, Flt.bx, List.append_assoc, List.take_succ_cons, List.take_zero, List.append_eq, id_eq, stepsO, List.map_cons, List.map_nil, valO, nthO, curO, mrg, List.reverse_cons, List.reverse_nil, List.nil_append, List.cons_append, List.append_nil, List.getElem?_cons_zero, List.getElem?_cons_succ, Option.map_some, Option.getD_some, List.set_cons_zero, List.set_cons_succ, AV.cellsOf, splice_zero, splice_succ, Nat.zero_add, Nat.reduceAdd]); rfl) ?_
  first | refine JL.store_boxF 3 ty29 (.tmp rfl) rfl (.tmp rfl) (by first | rfl | assumption) (rfl) (rfl) rfl ?_ | refine JL.store_boxF 3 ty29 (.tmp rfl) rfl (.tmp rfl) (by first | rfl | assumption) (rfl) (V.cs_length _ _) rfl ?_ | refine JL.store_boxF 3 ty29 (.tmp rfl) rfl (.tmp rfl) (by first | rfl | assumption) (V.cs_length _ _) (rfl) rfl ?_ | refine JL.store_boxF 3 ty29 (.tmp rfl) rfl (.tmp rfl) (by first | rfl | assumption) (V.cs_length _ _) (V.cs_length _ _) rfl ?_ | refine JL.store_box 3 ty29 (.tmp rfl) rfl (.tmp rfl) (by first | rfl | assumption) rfl rfl rfl rfl ?_ | refine JL.store_box 3 ty29 (.tmp rfl) rfl (.tmp rfl) (by first | rfl | assumption) (V.cs_length _ _) rfl rfl rfl ?_
  refine JL.nil ?_
  refine thenQ.n ⟨[], _, rfl, rfl, rfl, rfl, rfl, Reown.tkN 4 rfl, trivial, ⟨trivial, ⟨trivial, trivial⟩⟩, ?_⟩
  refine JX.conv (S' := [13, 12, 9, 8, 7, 6, 5, 4, 3, 2, 1, 0]) rfl (by (try simp only [lvM]); rfl) (by (try simp only [vlF, bxF, tkM, lvM, Flt.val, Flt.bx, List.append_assoc, List.take_succ_cons, List.take_zero, List.append_eq, id_eq, stepsO, List.map_cons, List.map_nil, valO, nthO, curO, mrg, List.reverse_cons, List.reverse_nil, List.nil_append, List.cons_append, List.append_nil, List.getElem?_cons_zero, List.getElem?_cons_succ, Option.map_some, Option.getD_some, List.set_cons_zero, List.set_cons_succ, AV.cellsOf, splice_zero, splice_succ, Nat.zero_add, Nat.reduceAdd]); rfl) ?_
  refine JX.f 14 [58] rfl rfl rfl rfl rfl rfl rfl rfl (fun ow_ => (.q rfl (QW.assign (.tmp rfl)))) ?_
  refine JX.f 15 [59] rfl rfl rfl rfl rfl rfl rfl rfl (fun ow_ => (.q rfl (QW.assign (.tmp rfl)))) ?_
  refine JX.fin (by kernel_rfl) (by kernel_rfl) fun bs_ => ?_
  refine QX.conv (by (try simp only [vlF, bxF, tkM, lvM, Flt.val, Flt.bx, List.append_assoc, List.take_succ_cons, List.take_zero, List.append_eq, id_eq, stepsO, List.map_cons, List.map_nil, valO, nthO, curO, mrg, List.reverse_cons, List.reverse_nil, List.nil_append, List.cons_append, List.append_nil, List.getElem?_cons_zero, List.getElem?_cons_succ, Option.map_some, Option.getD_some, List.set_cons_zero, List.set_cons_succ, AV.cellsOf, splice_zero, splice_succ, Nat.zero_add, Nat.reduceAdd]); rfl) ?_
  refine thenQ.n ?_
  refine J.seq ?_
  refine J.regionX mixed ?_
  refine JX.o 0 1 [] rfl rfl rfl rfl rfl rfl rfl rfl rfl (fun ow_ ho_ => (.q rfl (by first | exact QW.load_box 1 ty25 (.tmp rfl) ho_ rfl rfl | exact QW.load_box 1 ty25 (.tmp rfl) ho_ (take_at (EX.cs_length _ _) rfl) (EX.cs_length _ _)))) ?_
  refine JX.f 1 [61] rfl rfl rfl rfl rfl rfl rfl rfl (fun ow_ => (.q rfl (QW.call gofn9 (.cons (.tmp rfl) .nil) (of14_ok Xc.self hew)))) ?_
  refine JX.o 2 0 [] rfl rfl rfl rfl rfl rfl rfl rfl rfl (fun ow_ ho_ => (.q rfl (by first | exact QW.load_box 0 ty31 (.tmp rfl) ho_ rfl rfl | exact QW.load_box 0 ty31 (.tmp rfl) ho_ (take_at (ScT.cs_len _) rfl) (ScT.cs_len _)))) ?_
  refine JX.f 3 [63] rfl rfl rfl rfl rfl rfl rfl rfl (fun ow_ => (.q rfl (QW.call gofn10 (.cons (.tmp rfl) .nil) (of15_ok hw)))) ?_
  refine JX.f 4 [] rfl rfl rfl rfl rfl rfl rfl rfl (fun ow_ => (.q rfl (QW.move (.tmp rfl)))) ?_
  refine JX.f 5 [] rfl rfl rfl rfl rfl rfl rfl rfl (fun ow_ => (.q rfl (QW.move (.tmp rfl)))) ?_
  refine JX.f 6 [65, 66] rfl rfl rfl rfl rfl rfl rfl rfl (fun ow_ => (.q rfl (QW.sub (.tmp rfl) (.tmp rfl) (c := f - L) (by rw [← hL] at *; exact w64 (by omega))))) ?_
  refine JX.f 7 [62, 64, 67] rfl rfl rfl rfl rfl rfl rfl rfl (fun ow_ => (.q rfl (QW.call gofn11 (.cons (.tmp rfl) (.cons (.tmp rfl) (.cons (.tmp rfl) .nil))) (g6 ▸ eval_ok (e := e) (f := f - L) Xc.self hew hw (by omega))))) ?_
  refine JX.f 8 [68] rfl rfl rfl rfl rfl rfl rfl rfl (fun ow_ => (.q rfl (QW.move (.tmp rfl)))) ?_
  refine JX.f 9 [60] rfl rfl rfl rfl rfl rfl rfl rfl (fun ow_ => (.q rfl (QW.extract (.tmp rfl) rfl))) ?_
  refine JX.f 10 [60] rfl rfl rfl rfl rfl rfl rfl rfl (fun ow_ => (.q rfl (QW.extract (.tmp rfl) rfl))) ?_
  refine JX.f 11 [60] rfl rfl rfl rfl rfl rfl rfl rfl (fun ow_ => (.q rfl (QW.extract (.tmp rfl) rfl))) ?_
  refine JX.a 12 rfl (AllocOp.mk z29 rfl) rfl rfl rfl rfl rfl ?_
  refine JX.one 13 [true, false, false, true, true, true, true, true, true, true, true, true, true] rfl (by kernel_rfl) (by kernel_rfl) rfl rfl (by kernel_rfl) rfl fun bs13_ pe_ ex_ => ?_
  refine JL.conv (by (try simp only [vlF, bxF, tkM, lvM, Flt.val, Flt.bx, List.append_assoc, List.take_succ_cons, List.take_zero, List.append_eq, id_eq, stepsO, List.map_cons, List.map_nil, valO, nthO, curO, mrg, List.reverse_cons, List.reverse_nil, List.nil_append, List.cons_append, List.append_nil, List.getElem?_cons_zero, List.getElem?_cons_succ, Option.map_some, Option.getD_some, List.set_cons_zero, List.set_cons_succ, AV.cellsOf, splice_zero, splice_succ, Nat.zero_add, Nat.reduceAdd]); rfl) ?_
  first | refine JL.store_boxF 4 ty29 (.tmp rfl) rfl (.tmp rfl) (by first | rfl | assumption) (rfl) (rfl) rfl ?_ | refine JL.store_boxF 4 ty29 (.tmp rfl) rfl (.tmp rfl) (by first | rfl | assumption) (rfl) (V.cs_length _ _) rfl ?_ | refine JL.store_boxF 4 ty29 (.tmp rfl) rfl (.tmp rfl) (by first | rfl | assumption) (V.cs_length _ _) (rfl) rfl ?_ | refine JL.store_boxF 4 ty29 (.tmp rfl) rfl (.tmp rfl) (by first | rfl | assumption) (V.cs_length _ _) (V.cs_length _ _) rfl ?_ | refine JL.store_box 4 ty29 (.tmp rfl) rfl (.tmp rfl) (by first | rfl | assumption) rfl rfl rfl rfl ?_ | refine JL.store_box 4 ty29 (.tmp rfl) rfl (.tmp rfl) (by first | rfl | assumption) (V.cs_length _ _) rfl rfl rfl ?_
  refine JL.nil ?_
  refine thenQ.n ⟨[], _, rfl, rfl, rfl, rfl, rfl, Reown.tkN 5 rfl, trivial, ⟨trivial, ⟨trivial, trivial⟩⟩, ?_⟩
  refine JX.conv (S' := [13, 12, 9, 8, 7, 6, 5, 4, 3, 2, 1, 0]) rfl (by (try simp only [lvM]); rfl) (by (try simp only [vlF, bxF, tkM, lvM, Flt.val, Flt.bx, List.append_assoc, List.take_succ_cons, List.take_zero, List.append_eq, id_eq, stepsO, List.map_cons, List.map_nil, valO, nthO, curO, mrg, List.reverse_cons, List.reverse_nil, List.nil_append, List.cons_append, List.append_nil, List.getElem?_cons_zero, List.getElem?_cons_succ, Option.map_some, Option.getD_some, List.set_cons_zero, List.set_cons_succ, AV.cellsOf, splice_zero, splice_succ, Nat.zero_add, Nat.reduceAdd]); rfl) ?_
  refine JX.f 14 [70] rfl rfl rfl rfl rfl rfl rfl rfl (fun ow_ => (.q rfl (QW.assign (.tmp rfl)))) ?_
  refine JX.f 15 [71] rfl rfl rfl rfl rfl rfl rfl rfl (fun ow_ => (.q rfl (QW.assign (.tmp rfl)))) ?_
  refine JX.fin (by kernel_rfl) (by kernel_rfl) fun bs_ => ?_
  refine QX.conv (by (try simp only [vlF, bxF, tkM, lvM, Flt.val, Flt.bx, List.append_assoc, List.take_succ_cons, List.take_zero, List.append_eq, id_eq, stepsO, List.map_cons, List.map_nil, valO, nthO, curO, mrg, List.reverse_cons, List.reverse_nil, List.nil_append, List.cons_append, List.append_nil, List.getElem?_cons_zero, List.getElem?_cons_succ, Option.map_some, Option.getD_some, List.set_cons_zero, List.set_cons_succ, AV.cellsOf, splice_zero, splice_succ, Nat.zero_add, Nat.reduceAdd]); rfl) ?_
  refine thenQ.n ?_
  refine J.seq ?_
  refine J.regionX mixed ?_
  refine JX.o 0 1 [] rfl rfl rfl rfl rfl rfl rfl rfl rfl (fun ow_ ho_ => (.q rfl (by first | exact QW.load_box 1 ty25 (.tmp rfl) ho_ rfl rfl | exact QW.load_box 1 ty25 (.tmp rfl) ho_ (take_at (EX.cs_length _ _) rfl) (EX.cs_length _ _)))) ?_
  refine JX.f 1 [73] rfl rfl rfl rfl rfl rfl rfl rfl (fun ow_ => (.q rfl (QW.call gofn9 (.cons (.tmp rfl) .nil) (of14_ok Xc.self hew)))) ?_
  refine JX.o 2 0 [] rfl rfl rfl rfl rfl rfl rfl rfl rfl (fun ow_ ho_ => (.q rfl (by first | exact QW.load_box 0 ty31 (.tmp rfl) ho_ rfl rfl | exact QW.load_box 0 ty31 (.tmp rfl) ho_ (take_at (ScT.cs_len _) rfl) (ScT.cs_len _)))) ?_
  refine JX.f 3 [75] rfl rfl rfl rfl rfl rfl rfl rfl (fun ow_ => (.q rfl (QW.call gofn10 (.cons (.tmp rfl) .nil) (of15_ok hw)))) ?_
  refine JX.f 4 [] rfl rfl rfl rfl rfl rfl rfl rfl (fun ow_ => (.q rfl (QW.move (.tmp rfl)))) ?_
  refine JX.f 5 [] rfl rfl rfl rfl rfl rfl rfl rfl (fun ow_ => (.q rfl (QW.move (.tmp rfl)))) ?_
  refine JX.f 6 [77, 78] rfl rfl rfl rfl rfl rfl rfl rfl (fun ow_ => (.q rfl (QW.sub (.tmp rfl) (.tmp rfl) (c := f - L) (by rw [← hL] at *; exact w64 (by omega))))) ?_
  refine JX.f 7 [79] rfl rfl rfl rfl rfl rfl rfl rfl (fun ow_ => (.q rfl (QW.sub (.tmp rfl) .const (c := f - L - 1) (w64 (by omega))))) ?_
  refine JX.f 8 [74, 76, 80] rfl rfl rfl rfl rfl rfl rfl rfl (fun ow_ => (.q rfl (QW.call gofn11 (.cons (.tmp rfl) (.cons (.tmp rfl) (.cons (.tmp rfl) .nil))) (g7 ▸ eval_ok (e := e) (f := f - L - 1) Xc.self hew hw (by omega))))) ?_
  refine JX.f 9 [81] rfl rfl rfl rfl rfl rfl rfl rfl (fun ow_ => (.q rfl (QW.move (.tmp rfl)))) ?_
  refine JX.f 10 [72] rfl rfl rfl rfl rfl rfl rfl rfl (fun ow_ => (.q rfl (QW.extract (.tmp rfl) rfl))) ?_
  refine JX.f 11 [72] rfl rfl rfl rfl rfl rfl rfl rfl (fun ow_ => (.q rfl (QW.extract (.tmp rfl) rfl))) ?_
  refine JX.f 12 [72] rfl rfl rfl rfl rfl rfl rfl rfl (fun ow_ => (.q rfl (QW.extract (.tmp rfl) rfl))) ?_
  refine JX.a 13 rfl (AllocOp.mk z29 rfl) rfl rfl rfl rfl rfl ?_
  refine JX.one 14 [true, false, false, true, true, true, true, true, true, true, true, true, true, true] rfl (by kernel_rfl) (by kernel_rfl) rfl rfl (by kernel_rfl) rfl fun bs14_ pe_ ex_ => ?_
  refine JL.conv (by (try simp only [vlF, bxF, tkM, lvM, Flt.val, Flt.bx, List.append_assoc, List.take_succ_cons, List.take_zero, List.append_eq, id_eq, stepsO, List.map_cons, List.map_nil, valO, nthO, curO, mrg, List.reverse_cons, List.reverse_nil, List.nil_append, List.cons_append, List.append_nil, List.getElem?_cons_zero, List.getElem?_cons_succ, Option.map_some, Option.getD_some, List.set_cons_zero, List.set_cons_succ, AV.cellsOf, splice_zero, splice_succ, Nat.zero_add, Nat.reduceAdd]); rfl) ?_
  first | refine JL.store_boxF 5 ty29 (.tmp rfl) rfl (.tmp rfl) (by first | rfl | assumption) (rfl) (rfl) rfl ?_ | refine JL.store_boxF 5 ty29 (.tmp rfl) rfl (.tmp rfl) (by first | rfl | assumption) (rfl) (V.cs_length _ _) rfl ?_ | refine JL.store_boxF 5 ty29 (.tmp rfl) rfl (.tmp rfl) (by first | rfl | assumption) (V.cs_length _ _) (rfl) rfl ?_ | refine JL.store_boxF 5 ty29 (.tmp rfl) rfl (.tmp rfl) (by first | rfl | assumption) (V.cs_length _ _) (V.cs_length _ _) rfl ?_ | refine JL.store_box 5 ty29 (.tmp rfl) rfl (.tmp rfl) (by first | rfl | assumption) rfl rfl rfl rfl ?_ | refine JL.store_box 5 ty29 (.tmp rfl) rfl (.tmp rfl) (by first | rfl | assumption) (V.cs_length _ _) rfl rfl rfl ?_
  refine JL.nil ?_
  refine thenQ.n ⟨[], _, rfl, rfl, rfl, rfl, rfl, Reown.tkN 6 rfl, trivial, ⟨trivial, ⟨trivial, trivial⟩⟩, ?_⟩
  refine JX.conv (S' := [14, 13, 10, 9, 8, 7, 6, 5, 4, 3, 2, 1, 0]) rfl (by (try simp only [lvM]); rfl) (by (try simp only [vlF, bxF, tkM, lvM, Flt.val, Flt.bx, List.append_assoc, List.take_succ_cons, List.take_zero, List.append_eq, id_eq, stepsO, List.map_cons, List.map_nil, valO, nthO, curO, mrg, List.reverse_cons, List.reverse_nil, List.nil_append, List.cons_append, List.append_nil, List.getElem?_cons_zero, List.getElem?_cons_succ, Option.map_some, Option.getD_some, List.set_cons_zero, List.set_cons_succ, AV.cellsOf, splice_zero, splice_succ, Nat.zero_add, Nat.reduceAdd]); rfl) ?_
  refine JX.f 15 [83] rfl rfl rfl rfl rfl rfl rfl rfl (fun ow_ => (.q rfl (QW.assign (.tmp rfl)))) ?_
  refine JX.f 16 [84] rfl rfl rfl rfl rfl rfl rfl rfl (fun ow_ => (.q rfl (QW.assign (.tmp rfl)))) ?_
  refine JX.fin (by kernel_rfl) (by kernel_rfl) fun bs_ => ?_
  refine QX.conv (by (try simp only [vlF, bxF, tkM, lvM, Flt.val, Flt.bx, List.append_assoc, List.take_succ_cons, List.take_zero, List.append_eq, id_eq, stepsO, List.map_cons, List.map_nil, valO, nthO, curO, mrg, List.reverse_cons, List.reverse_nil, List.nil_append, List.cons_append, List.append_nil, List.getElem?_cons_zero, List.getElem?_cons_succ, Option.map_some, Option.getD_some, List.set_cons_zero, List.set_cons_succ, AV.cellsOf, splice_zero, splice_succ, Nat.zero_add, Nat.reduceAdd]); rfl) ?_
  refine thenQ.n ?_
  refine J.seq ?_
  refine J.region_lit ?_
  refine JL.q rfl rfl rfl (QW.move (.tmp rfl)) ?_
  refine JL.q rfl rfl rfl (QW.call gofn14 (.cons (.tmp rfl) .nil) (num15_ok _)) ?_
  refine JL.q rfl rfl rfl (QW.move (.tmp rfl)) ?_
  refine JL.q rfl rfl rfl (QW.call gofn14 (.cons (.tmp rfl) .nil) (num15_ok _)) ?_
  refine JL.q rfl rfl rfl (QW.add (.tmp rfl) (.tmp rfl) (by first | exact w64n (by first | rfl | omega | (simp; done)) (by omega) | exact w64 (by omega) | rfl)) ?_
  refine JL.q rfl rfl rfl (QW.eql (.tmp rfl) .const) ?_
  refine JL.q rfl rfl rfl (QW.move (.tmp rfl)) ?_
  refine JL.g rfl rfl rfl rfl rfl (fun hg => (by first | exact QW.load_box 2 ty29 (.tmp rfl) rfl rfl rfl | exact QW.load_box 2 ty29 (.tmp rfl) rfl (take_at (V.cs_length _ _) rfl) (V.cs_length _ _))) ?_
  refine JL.g rfl rfl rfl rfl rfl (fun hg => (by first | exact QW.load_box 3 ty29 (.tmp rfl) rfl rfl rfl | exact QW.load_box 3 ty29 (.tmp rfl) rfl (take_at (V.cs_length _ _) rfl) (V.cs_length _ _))) ?_
  refine JL.g rfl rfl rfl rfl rfl (fun hg => (QW.call gofn13 (.cons (.when rfl hg) (.cons (.when rfl hg) .nil)) (sameValue_ok (fr := true) (fr2 := true) (v := (evalT e s f).1) (u := (evalT e s f).1) Vc.self Vc.self w1 w1))) ?_
  refine JL.q rfl rfl rfl (QW.pick_and (.tmp rfl) (.tmp rfl)) ?_
  refine JL.q rfl rfl rfl (QW.move (.tmp rfl)) ?_
  refine JL.g rfl rfl rfl rfl rfl (fun hg => (QW.move (.tmp rfl))) ?_
  refine JL.g rfl rfl rfl rfl rfl (fun hg => (QW.move (.tmp rfl))) ?_
  refine JL.g rfl rfl rfl rfl rfl (fun hg => (QW.move (.tmp rfl))) ?_
  refine JL.g rfl rfl rfl rfl rfl (fun hg => (QW.add (.when rfl hg) (.when rfl hg) (by first | exact w64n (by first | rfl | omega | (simp; done)) (by omega) | exact w64 (by omega) | rfl))) ?_
  refine JL.g rfl rfl rfl rfl rfl (fun hg => (QW.eql (.when rfl hg) (.when rfl hg))) ?_
  refine JL.q rfl rfl rfl (QW.pick_and (.tmp rfl) (.tmp rfl)) ?_
  refine JL.q rfl rfl rfl (QW.move (.tmp rfl)) ?_
  refine JL.g rfl rfl rfl rfl rfl (fun hg => (QW.move (.tmp rfl))) ?_
  refine JL.g rfl rfl rfl rfl rfl (fun hg => (QW.call gofn14 (.cons (.when rfl hg) .nil) (num15_ok _))) ?_
  refine JL.g rfl rfl rfl rfl rfl (fun hg => (QW.eql (.when rfl hg) .const)) ?_
  refine JL.q rfl rfl rfl (QW.pick_and (.tmp rfl) (.tmp rfl)) ?_
  refine JL.q rfl rfl rfl (QW.assign (.tmp rfl)) ?_
  refine JL.nil ?_
  refine thenQ.n ?_
  refine J.ret ?_
  exact ⟨_, selP [.k, .k, .k, .k, .k, .k] _, _, RetEv.one rfl (REv.tmp rfl (.refl _)), rfl, sel_perm [.k, .k, .k, .k, .k, .k] _, ⟨ret_b (by simp [V.same_refl, hL]), rfl⟩⟩
end Go.Proofs.YtjhonjdhanlbkaaGreat.J

