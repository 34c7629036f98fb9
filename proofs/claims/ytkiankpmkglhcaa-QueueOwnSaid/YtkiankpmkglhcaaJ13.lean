/- Trees that a call owns: entries in groups; what they read as when they are lent, or closed for good. -/
import Derived.Test.YtkiankpmkglhcaaJ12
namespace Go.Proofs.Ytkiankpmkglhcaa.J
open Go Go.RowKit
set_option linter.unusedVariables false
set_option linter.unusedSimpArgs false

/-- The same blocks, and right in the same worlds. -/
def OwnEq (o o' : Own) : Prop := (∀ b, o.fp.count b = o'.fp.count b) ∧ ∀ w A, o.ok w A ↔ o'.ok w A
theorem OwnEq.refl (o : Own) : OwnEq o o := ⟨fun _ => rfl, fun _ _ => .rfl⟩
theorem OwnEq.symm {o o' : Own} (h : OwnEq o o') : OwnEq o' o := ⟨fun b => (h.1 b).symm, fun w A => (h.2 w A).symm⟩
theorem OwnEq.trans {o o' o'' : Own} (h : OwnEq o o') (k : OwnEq o' o'') : OwnEq o o'' := ⟨fun b => (h.1 b).trans (k.1 b), fun w A => (h.2 w A).trans (k.2 w A)⟩
theorem OwnEq.mem {o o' : Own} (h : OwnEq o o') (b : Nat) : b ∈ o.fp ↔ b ∈ o'.fp := by
  rw [← List.count_pos_iff, ← List.count_pos_iff, h.1 b]
theorem OwnEq.perm {o o' : Own} (h : OwnEq o o') : o.fp.Perm o'.fp := List.perm_iff_count.2 h.1

theorem OwnEq.grp {l l' : List Own} (h1 : ∀ b, (fps l).count b = (fps l').count b) (h2 : ∀ w A, (∀ o ∈ l, o.ok w A) ↔ ∀ o ∈ l', o.ok w A) : OwnEq (.grp l) (.grp l') :=
  ⟨fun b => by simpa [Own.fp, fpl_eq] using h1 b, fun w A => by simpa [Own.ok, okl_iff] using h2 w A⟩
theorem OwnEq.grp_perm {l l' : List Own} (h : l.Perm l') : OwnEq (.grp l) (.grp l') := .grp (fun b => (fps_perm h).count_eq b) fun w A => ⟨fun k o ho => k o (h.mem_iff.2 ho), fun k o ho => k o (h.mem_iff.1 ho)⟩
theorem fps_cons (o : Own) (l : List Own) : fps (o :: l) = o.fp ++ fps l := by simp [fps]
theorem fps_nil : fps [] = [] := rfl
theorem OwnEq.cons {o o' : Own} {l l' : List Own} (h : OwnEq o o') (k : OwnEq (.grp l) (.grp l')) : OwnEq (.grp (o :: l)) (.grp (o' :: l')) :=
  .grp (fun b => by
    have := k.1 b
    simp only [Own.fp, fpl_eq] at this
    simp only [fps_cons, List.count_append, h.1 b, this]) fun w A => by
    have := k.2 w A
    simp only [Own.ok, okl_iff] at this
    simp only [List.forall_mem_cons, h.2 w A, this]
theorem OwnEq.one (o : Own) : OwnEq (.grp [o]) o := ⟨fun b => by simp [Own.fp, Own.fpl], fun w A => by simp [Own.ok, Own.okl]⟩
theorem OwnEq.nest (l r : List Own) : OwnEq (.grp (.grp l :: r)) (.grp (l ++ r)) := .grp (fun b => by simp [fps_cons, fps_append, Own.fp, fpl_eq]) fun w A => by simp [Own.ok, okl_iff, or_imp, forall_and]
theorem OwnEq.nil_arr (v : Value) (e : ETy) (a : Option Addr) : OwnEq (.grp []) (.grp []) := .refl _

mutual
/-- A value reads as x, and all that it is read through is the entry's own. -/
inductive Tr : AV → Value → Own → Prop
  | c {v : Value} {o : Own} (ho : OwnEq (.grp []) o) : Tr (.c v) v o
  | sl {e : ETy} {xs cs : List (List AV)} {v : Value} {us : List Value} {o o' : Own} (h1 : cs.flatten = us.map AV.c) (h2 : cs.length = xs.length) (h3 : ∀ x ∈ xs, x.length = e.sz) (h4 : ∀ x ∈ cs, x.length = e.sz) (h5 : us.all (·.oneCell') = true)
      (h6 : xs.length * e.bytes ≤ reach) (h : TrL xs.flatten us o) (ho : OwnEq (.grp [.arr v e cs, o]) o') : Tr (.sl true false e xs) v o'
  | agg {ys : List AV} {us : List Value} {o : Own} (h5 : us.all (·.oneCell') = true) (h : TrL ys us o) : Tr (.agg ys) (.agg us.toArray) o
inductive TrL : List AV → List Value → Own → Prop
  | nil {o : Own} (ho : OwnEq (.grp []) o) : TrL [] [] o
  | cons {y : AV} {u : Value} {ys : List AV} {us : List Value} {o o' o'' : Own} (h : Tr y u o) (hs : TrL ys us o') (ho : OwnEq (.grp [o, o']) o'') : TrL (y :: ys) (u :: us) o''
end

theorem Tr.eqv {x : AV} {v : Value} {o o' : Own} (h : Tr x v o) (k : OwnEq o o') : Tr x v o' := by
  cases h with
  | c ho => exact .c (ho.trans k)
  | sl h1 h2 h3 h4 h5 h6 h ho => exact .sl h1 h2 h3 h4 h5 h6 h (ho.trans k)
  | agg h5 h =>
    refine .agg h5 ?_
    cases h with
    | nil ho => exact .nil (ho.trans k)
    | cons h hs ho => exact .cons h hs (ho.trans k)
theorem TrL.eqv {x : List AV} {v : List Value} {o o' : Own} (h : TrL x v o) (k : OwnEq o o') : TrL x v o' := by
  cases h with
  | nil ho => exact .nil (ho.trans k)
  | cons h hs ho => exact .cons h hs (ho.trans k)

theorem TrL.length {ys : List AV} {us : List Value} {o : Own} (h : TrL ys us o) : ys.length = us.length := by
  induction ys generalizing us o with
  | nil => cases h; rfl
  | cons y ys ih =>
    cases h with
    | cons h hs ho => simp [ih hs]

theorem TrL.append {ys zs : List AV} {us vs : List Value} {o o' o'' : Own} (h : TrL ys us o) (k : TrL zs vs o') (ho : OwnEq (.grp [o, o']) o'') : TrL (ys ++ zs) (us ++ vs) o'' := by
  induction ys generalizing us o o'' with
  | nil =>
    cases h with
    | nil hn =>
      refine k.eqv (OwnEq.trans ?_ ho)
      exact (OwnEq.one o').symm.trans ((OwnEq.nest [] [o']).symm.trans (.cons hn (.refl _)))
  | cons y ys ih =>
    cases h with
    | cons h1 hs h2 =>
      rename_i u us oa ob
      refine .cons h1 (ih hs (.refl _)) (OwnEq.trans ?_ ho)
      -- [oa, [ob, o']] ~ [[oa, ob], o']
      refine OwnEq.trans ?_ (.cons h2 (.refl _))
      refine OwnEq.trans ?_ (OwnEq.nest [oa, ob] [o']).symm
      refine OwnEq.trans (.grp_perm (List.Perm.swap _ _ _)) ?_
      refine OwnEq.trans (OwnEq.nest [ob, o'] [oa]) (.grp_perm ?_)
      exact (List.perm_append_comm (l₁ := [ob, o']) (l₂ := [oa]))

theorem TrL.split {ys zs : List AV} {us : List Value} {o : Own} (h : TrL (ys ++ zs) us o) : ∃ u1 u2 o1 o2, us = u1 ++ u2 ∧ TrL ys u1 o1 ∧ TrL zs u2 o2 ∧ OwnEq (.grp [o1, o2]) o := by
  induction ys generalizing us o with
  | nil => exact ⟨[], us, .grp [], o, rfl, .nil (.refl _), h, (OwnEq.nest [] [o]).trans (OwnEq.one o)⟩
  | cons y ys ih =>
    cases h with
    | cons h1 hs h2 =>
      rename_i u us oa ob
      obtain ⟨u1, u2, o1, o2, hu, g1, g2, g3⟩ := ih hs
      refine ⟨u :: u1, u2, .grp [oa, o1], o2, by simp [hu], .cons h1 g1 (.refl _), g2, ?_⟩
      refine OwnEq.trans (OwnEq.nest [oa, o1] [o2]) ?_
      refine OwnEq.trans ?_ h2
      exact .cons (.refl _) (OwnEq.trans (OwnEq.one _).symm (.cons g3 (.refl _)))

/-- Its blocks may be read: it reads. -/
theorem okl_two {w : World} {A : Foot} {o o' o'' : Own} (ho : OwnEq (.grp [o, o']) o'') (h : o''.ok w A) : o.ok w A ∧ o'.ok w A := by
  have := (ho.2 w A).2 h
  simpa [Own.ok, Own.okl] using this
theorem mem_two {o o' o'' : Own} (ho : OwnEq (.grp [o, o']) o'') {b : Nat} (h : b ∈ o.fp ∨ b ∈ o'.fp) : b ∈ o''.fp := by
  rw [← ho.mem]; simpa [Own.fp, Own.fpl] using h

theorem cells_of_flat {w : World} {A : Foot} {us : List Value} {ys : List AV} {cells : Array Value} (h : Cells w A cells 0 (us.map AV.c)) (hl : ys.length = us.length) (hr : ∀ (k : Nat) (y : AV) (u : Value), ys[k]? = some y → us[k]? = some u → Rd w A u y) : Cells w A cells 0 ys := fun k y hk => by
  obtain ⟨u, hu⟩ : ∃ u, us[k]? = some u := ⟨us[k]'(by rw [← hl]; exact (List.getElem?_eq_some_iff.1 hk).1), List.getElem?_eq_getElem _⟩
  obtain ⟨u', h1, h0, h2⟩ := h k (.c u) (by simp [hu])
  have := h2.eq
  subst this
  exact ⟨_, h1, h0, hr k y _ hk hu⟩

mutual
theorem Tr.rd {w : World} {A : Foot} : ∀ {x : AV} {v : Value} {o : Own}, Tr x v o → o.ok w A → (∀ b ∈ o.fp, A true b) → Rd w A v x
  | _, _, _, .c _, _, _ => .c _
  | _, _, _, .sl (e := e) (xs := xs) (cs := cs) (v := v) (us := us) (o := o) h1 h2 h3 h4 h5 h6 h ho, hok, hA => by
    obtain ⟨g1, g2⟩ := okl_two ho hok
    have hel := TrL.rd h g2 fun b hb => hA b (mem_two ho (.inr hb))
    have hlen := h.length
    simp only [Own.ok] at g1
    rcases g1 with ⟨a0, rfl, hcs⟩ | ⟨b, cap, cells, t, rfl, hb, hcap, hcu, hsz, hc⟩
    · subst hcs
      have : xs = [] := by cases xs with | nil => rfl | cons _ _ => simp at h2
      subst this
      exact .emp _ _ _ _ _ fun hh => by cases hh
    · rw [h1] at hc
      have hc' := cells_of_flat hc hlen hel
      rw [h2] at hcap ⊢
      exact .sl true false e xs b 0 (cap + 1) cells t (0, 0) (fun k => cells.getD k undef) (hA b (mem_two ho (.inl (by simp [Own.fp, arrFp])))) hb hcap (fun hh => by cases hh) h3 h6
        (fun k y hk => by
          obtain ⟨u, k1, k0, _⟩ := hc' k y hk
          rw [Nat.zero_add] at k1 ⊢
          simp [Array.getD_eq_getD_getElem?, k1, k0])
        fun k y hk => by
          obtain ⟨u, k1, _, k2⟩ := hc' k y hk
          rw [Nat.zero_add] at k1
          simpa [Array.getD_eq_getD_getElem?, k1] using k2
  | _, _, _, .agg (ys := ys) (us := us) h5 h, hok, hA => by
    have hel := TrL.rd h hok hA
    refine .mk_agg (by simp [h.length]) fun k y hk => ?_
    obtain ⟨u, hu⟩ : ∃ u, us[k]? = some u := ⟨us[k]'(by rw [← h.length]; exact (List.getElem?_eq_some_iff.1 hk).1), List.getElem?_eq_getElem _⟩
    exact ⟨u, by simpa using hu, (List.all_eq_true.1 h5) u (List.mem_of_getElem? hu), hel k y u hk hu⟩
theorem TrL.rd {w : World} {A : Foot} : ∀ {ys : List AV} {us : List Value} {o : Own}, TrL ys us o → o.ok w A → (∀ b ∈ o.fp, A true b) → ∀ (k : Nat) (y : AV) (u : Value), ys[k]? = some y → us[k]? = some u → Rd w A u y
  | _, _, _, .nil _, _, _ => fun k y u hk _ => by simp at hk
  | _, _, _, .cons h hs ho, hok, hA => fun k y u hk hu => by
    obtain ⟨g1, g2⟩ := okl_two ho hok
    cases k with
    | zero =>
      simp at hk hu
      subst hk hu
      exact Tr.rd h g1 fun b hb => hA b (mem_two ho (.inl hb))
    | succ k => exact TrL.rd hs g2 (fun b hb => hA b (mem_two ho (.inr hb))) k y u (by simpa using hk) (by simpa using hu)
end

abbrev LowFl : AV → Prop := Fl (· = false)

/-- An own tree, lent, reads as its low form. -/
theorem Tr.lent {x y : AV} {v : Value} {o : Own} (h : Tr x v o) (hl : Le [] x y) (hy : LowFl y) : Lent [(v, y)] [o] := fun w A hok hA hm p hp => by
  simp only [List.mem_singleton] at hp
  subst hp
  have hfp : ∀ b ∈ o.fp, A false b := fun b hb => hA b (by simpa [fps] using hb)
  let A1 : Foot := fun fr b => A fr b ∨ b ∈ o.fp
  have hok' : o.ok w A := by simpa [Own.okl] using hok
  have h1 : Rd w A1 v x := h.rd (hok'.move (fun fr b hb _ => .inl hb) (fun _ _ _ _ => rfl) fun _ _ => rfl) fun b hb => .inr hb
  have h2 : Rd w A1 v y := h1.le (F := []) (fun b hb => hb.imp (hm b) id) (fun p hp => by cases hp) hl
  exact h2.flags (p := (· = false)) hy (fun fr b hf hb => by subst hf; exact hb.elim id (hfp b)) fun _ _ _ _ => rfl
theorem Lent.cons {G G' : List (Value × AV)} {o : Own} {O : List Own} (h : Lent G [o]) (k : Lent G' O) : Lent (G ++ G') (o :: O) := fun w A hok hA hm p hp => by
  simp only [Own.okl] at hok
  simp only [fps_cons, List.mem_append] at hA
  rcases List.mem_append.1 hp with hp | hp
  · exact h w A (by simpa [Own.okl] using hok.1) (fun b hb => hA b (.inl (by simpa [fps] using hb))) hm p hp
  · exact k w A hok.2 (fun b hb => hA b (.inr hb)) hm p hp

/-- What an entry reads as when it is given up. -/
def Clos (G : List (Value × AV)) (o : Own) : Prop := ∀ (w : World) (A : Foot), o.ok w A → (∀ b ∈ o.fp, ∀ fr, A fr b) → ∀ p ∈ G, Rd w A p.1 p.2
theorem Tr.clos {x : AV} {v : Value} {o : Own} (h : Tr x v o) : Clos [(v, x)] o := fun w A hok hA p hp => by
  simp only [List.mem_singleton] at hp
  subst hp
  exact h.rd hok fun b hb => hA b hb true
theorem Clos.arr {v : Value} {e : ETy} {xs : List (List AV)} (hr : xs.length * e.bytes ≤ reach) : Clos [(v, .sl true false e xs)] (.arr v e xs) := fun w A hok hA p hp => by
  simp only [List.mem_singleton] at hp
  subst hp
  simp only [Own.ok] at hok
  rcases hok with ⟨a0, rfl, rfl⟩ | ⟨b, cap, us, t, rfl, hb, hcap, hus, hsz, hc⟩
  · exact .emp _ _ _ _ _ (fun _ => rfl)
  · refine .sl true false e xs b 0 (cap + 1) us t (0, 0) (fun k => us.getD k undef) (hA b (by simp [Own.fp, arrFp]) true) hb hcap (fun hh => by cases hh) hsz hr (fun k y hk => ?_) (fun k y hk => ?_)
    · obtain ⟨u, h1, h0, _⟩ := hc k y hk
      rw [Nat.zero_add] at h1 ⊢
      simp [Array.getD_eq_getD_getElem?, h1, h0]
    · obtain ⟨u, h1, _, h2⟩ := hc k y hk
      rw [Nat.zero_add] at h1
      simpa [Array.getD_eq_getD_getElem?, h1] using h2
/-- An own array lent. -/
theorem Lent.arr {v : Value} {e : ETy} {xs : List (List AV)} (hr : xs.length * e.bytes ≤ reach) : Lent [(v, .sl false false e xs)] [.arr v e xs] := fun w A hok hA hm p hp => by
  simp only [List.mem_singleton] at hp
  subst hp
  have hok' : (Own.arr v e xs).ok w A := by simpa [Own.okl] using hok
  have hfp : ∀ b ∈ (Own.arr v e xs).fp, A false b := fun b hb => hA b (by simpa [fps] using hb)
  simp only [Own.ok] at hok'
  rcases hok' with ⟨a0, rfl, rfl⟩ | ⟨b, cap, us, t, rfl, hb, hcap, hus, hsz, hc⟩
  · exact .emp _ _ _ _ _ (fun _ => rfl)
  · refine .sl false false e xs b 0 (cap + 1) us t (0, 0) (fun k => us.getD k undef) (hfp b (by simp [Own.fp, arrFp])) hb hcap (fun hh => by cases hh) hsz hr (fun k y hk => ?_) (fun k y hk => ?_)
    · obtain ⟨u, h1, h0, _⟩ := hc k y hk
      rw [Nat.zero_add] at h1 ⊢
      simp [Array.getD_eq_getD_getElem?, h1, h0]
    · obtain ⟨u, h1, _, h2⟩ := hc k y hk
      rw [Nat.zero_add] at h1
      simpa [Array.getD_eq_getD_getElem?, h1] using h2

section
variable {P : Program} {E : Ent} {st : St} {Q : Exit → St → Prop} {n B : Nat} {env : List (Nat × AV)} {own : List Own} {F : List (Value × AV)} {D : List Deferred} {ops : Array Oper} {rest : List Oper}
variable {A : Foot} {a : Act} {w w' : World}

theorem SatA.close {i : Nat} {o : Own} {G : List (Value × AV)} (h : SatA E A ⟨n, env, own, F, D⟩ a w) (hi : own[i]? = some o) (hG : Clos G o)
    (hfp : ∀ b ∈ E.fp0, b ∈ fps (own.eraseIdx i)) : ∃ A', SatA E A' ⟨n, env, own.eraseIdx i, G ++ F, D⟩ a w := by
  have h' := h.perm (perm_pick hi)
  have hnd := h'.hp.nodup
  rw [fps_cons] at hnd
  simp only [List.nodup_append] at hnd
  obtain ⟨hn1, hn2, hn3⟩ := hnd
  let A' : Foot := fun fr b => A fr b ∨ b ∈ o.fp
  have hup : ∀ fr b, A fr b → A' fr b := fun fr b hb => .inl hb
  have hfpx : ∀ b ∈ o.fp, b < w.heap.size ∧ (b ∈ E.fp0 ∨ E.w0.heap.size ≤ b) ∧ ∀ fr, ¬ A fr b := fun b hb => h'.hp.fp b (by rw [fps_cons]; exact List.mem_append_left _ hb)
  have hm : ∀ {u x}, Rd w A u x → Rd w A' u x := fun hr => hr.move (fun fr b hb _ => hup fr b hb) fun _ _ _ _ => rfl
  refine ⟨A', h'.size, h'.defers, h'.keep, ⟨fun b hb => hb.imp (h'.hp.mono b) id, fun fr b hb => hup fr b (h'.hp.sup fr b hb), fun fr b hb => ?_, fun fr b hb => hb.elim (h'.hp.lt fr b) fun hb => (hfpx b hb).1, fun b hb => ?_, hn2, fun o ho => ?_⟩,
    fun i x hl => hm (h'.env i x hl), fun p hp => ?_⟩
  · rcases hb with hb | hb
    · exact h'.hp.sub fr b hb
    · refine .inr ((hfpx b hb).2.1.elim (fun hmem => ?_) id)
      exact absurd rfl (hn3 b hb b (hfp b hmem))
  · obtain ⟨h1, h2, h3⟩ := h'.hp.fp b (by rw [fps_cons]; exact List.mem_append_right _ hb)
    exact ⟨h1, h2, fun fr hA => hA.elim (h3 fr) fun hb' => hn3 b hb' b hb rfl⟩
  · exact (h'.hp.own o (List.mem_cons_of_mem _ ho)).move (fun fr b hb _ => hup fr b hb) (fun _ _ _ _ => rfl) fun _ _ => rfl
  · rcases List.mem_append.1 hp with hp | hp
    · exact hG w A' ((h'.hp.own _ (List.mem_cons_self)).move (fun fr b hb _ => hup fr b hb) (fun _ _ _ _ => rfl) fun _ _ => rfl) (fun b hb fr => .inr hb) p hp
    · exact hm (h'.facts p hp)

theorem JL.close (i : Nat) {o : Own} {G : List (Value × AV)} {own' : List Own} {l : List Oper} (hi : own[i]? = some o) (hG : Clos G o) (ho : own.eraseIdx i = own') (hfp : ∀ b ∈ E.fp0, b ∈ fps own')
    (h : JL P E ops l ⟨n, env, own', G ++ F, D⟩ Q) : JL P E ops l ⟨n, env, own, F, D⟩ Q := fun a w ⟨A, hA⟩ => by
  subst ho
  obtain ⟨A', hA'⟩ := hA.close hi hG hfp
  exact h a w ⟨A', hA'⟩
theorem J.close (i : Nat) {o : Own} {G : List (Value × AV)} {own' : List Own} {c : Code} (hi : own[i]? = some o) (hG : Clos G o) (ho : own.eraseIdx i = own') (hfp : ∀ b ∈ E.fp0, b ∈ fps own')
    (h : J P E c ⟨n, env, own', G ++ F, D⟩ Q) : J P E c ⟨n, env, own, F, D⟩ Q := fun a w ⟨A, hA⟩ => by
  subst ho
  obtain ⟨A', hA'⟩ := hA.close hi hG hfp
  exact h a w ⟨A', hA'⟩

/-- Own entries said in another way. -/
def Reown (own own' : List Own) : Prop := (∀ b, (fps own').count b ≤ (fps own).count b) ∧ ∀ w A, (∀ o ∈ own, o.ok w A) → ∀ o ∈ own', o.ok w A
theorem Hp.reown {n0 : Nat} {fp0 : List Nat} {A0 : Foot} {own' : List Own} (h : Hp n0 fp0 A0 own w A) (hr : Reown own own') : Hp n0 fp0 A0 own' w A :=
  ⟨h.mono, h.sup, h.sub, h.lt, fun b hb => h.fp b (by rw [← List.count_pos_iff] at hb ⊢; exact Nat.lt_of_lt_of_le hb (hr.1 b)), by
    rw [List.nodup_iff_count]
    intro b
    exact Nat.le_trans (hr.1 b) ((List.nodup_iff_count.1 h.nodup) b), hr.2 w A h.own⟩
theorem Reown.refl (own : List Own) : Reown own own := ⟨fun _ => Nat.le_refl _, fun _ _ h => h⟩
theorem Reown.trans {a b c : List Own} (h : Reown a b) (k : Reown b c) : Reown a c := ⟨fun x => Nat.le_trans (k.1 x) (h.1 x), fun w A g => k.2 w A (h.2 w A g)⟩
theorem Reown.perm {a b : List Own} (h : a.Perm b) : Reown a b := ⟨fun x => Nat.le_of_eq ((fps_perm h).count_eq x).symm, fun w A g o ho => g o (h.mem_iff.2 ho)⟩
theorem Reown.drop (a b : List Own) : Reown (a ++ b) b := ⟨fun x => by simp [fps_append], fun w A g o ho => g o (List.mem_append_right _ ho)⟩
theorem Reown.left {a b c : List Own} (h : Reown a b) : Reown (c ++ a) (c ++ b) := ⟨fun x => by simp only [fps_append, List.count_append]; exact Nat.add_le_add_left (h.1 x) _, fun w A g o ho => by
  rcases List.mem_append.1 ho with ho | ho
  · exact g o (List.mem_append_left _ ho)
  · exact h.2 w A (fun o ho => g o (List.mem_append_right _ ho)) o ho⟩
theorem Reown.cons {o : Own} {a b : List Own} (h : Reown a b) : Reown (o :: a) (o :: b) := Reown.left (c := [o]) h
theorem Reown.eq {o o' : Own} {a : List Own} (h : OwnEq o o') : Reown (o :: a) (o' :: a) := ⟨fun x => by simp only [fps_cons, List.count_append, h.1 x]; exact Nat.le_refl _, fun w A g => by
  simp only [List.forall_mem_cons] at g ⊢
  exact ⟨(h.2 w A).1 g.1, g.2⟩⟩
theorem Reown.open (l a : List Own) : Reown (.grp l :: a) (l ++ a) := ⟨fun x => by simp [fps_cons, fps_append, Own.fp, fpl_eq], fun w A g => by
  simp only [List.forall_mem_cons, Own.ok, okl_iff] at g
  intro o ho
  rcases List.mem_append.1 ho with ho | ho
  · exact g.1 o ho
  · exact g.2 o ho⟩
theorem Reown.shut (l a : List Own) : Reown (l ++ a) (.grp l :: a) := ⟨fun x => by simp [fps_cons, fps_append, Own.fp, fpl_eq], fun w A g => by
  simp only [List.forall_mem_cons, Own.ok, okl_iff]
  exact ⟨fun o ho => g o (List.mem_append_left _ ho), fun o ho => g o (List.mem_append_right _ ho)⟩⟩
/-- One entry is replaced, in its place, by a group's two: the second goes to the end. -/
theorem Reown.split2 {own : List Own} {i : Nat} {o o1 o2 : Own} (hi : own[i]? = some o) (h : OwnEq (.grp [o1, o2]) o) : Reown own (own.set i o1 ++ [o2]) := by
  have hlt := (List.getElem?_eq_some_iff.1 hi).1
  refine (Reown.perm (perm_pick hi)).trans ((Reown.eq h.symm).trans ((Reown.open [o1, o2] _).trans (Reown.perm ?_)))
  have hs : (own.set i o1)[i]? = some o1 := by simp [hlt]
  have h2 := perm_pick hs
  rw [List.eraseIdx_set_eq] at h2
  exact ((List.Perm.cons o1 (List.perm_append_singleton o2 _).symm)).trans (by
    rw [← List.cons_append]; exact List.Perm.append_right [o2] h2.symm)

theorem SatA.reown {own' : List Own} (h : SatA E A ⟨n, env, own, F, D⟩ a w) (hr : Reown own own') : SatA E A ⟨n, env, own', F, D⟩ a w := ⟨h.size, h.defers, h.keep, h.hp.reown hr, h.env, h.facts⟩
theorem JL.reown {own' : List Own} {l : List Oper} (hr : Reown own own') (h : JL P E ops l ⟨n, env, own', F, D⟩ Q) : JL P E ops l ⟨n, env, own, F, D⟩ Q := fun a w ⟨A, hA⟩ => h a w ⟨A, hA.reown hr⟩
theorem J.reown {own' : List Own} {c : Code} (hr : Reown own own') (h : J P E c ⟨n, env, own', F, D⟩ Q) : J P E c ⟨n, env, own, F, D⟩ Q := fun a w ⟨A, hA⟩ => h a w ⟨A, hA.reown hr⟩
theorem Wk.re {own' : List Own} {env' : List (Nat × AV)} {F' : List (Value × AV)} (henv : EnvLe F env env') (hr : Reown own own') (hF : ∀ p ∈ F', p ∈ F) : Wk ⟨n, env, own, F, D⟩ ⟨n, env', own', F', D⟩ := fun E a w ⟨A, h⟩ =>
  ⟨A, h.size, h.defers, h.keep, h.hp.reown hr, fun i x hl => by
    obtain ⟨y, hy, hle⟩ := henv.get i x hl
    exact (h.env i y hy).le h.hp.mono h.facts hle, fun p hp => h.facts p (hF p hp)⟩

/-! ### loops that keep what is around them -/
def pickEnv : List Nat → List (Nat × AV) → List (Nat × AV)
  | [], _ => []
  | k :: ks, env => match lk env k with | some x => (k, x) :: pickEnv ks env | none => pickEnv ks env

/-- A loop: the slots ks are as they were; ch says of the others; ow of the own entries. -/
theorem J.loopK {ι : Type} {c : Code} (ks : List Nat) (ch : ι → List (Nat × AV)) (ow : ι → List Own → List Own) (p : ι → Prop) (μ : ι → Nat) (i0 : ι) (h0 : p i0)
    (hw : Wk ⟨n, env, own, F, D⟩ ⟨n, ch i0 ++ pickEnv ks env, ow i0 own, F, D⟩)
    (round : ∀ i, p i → J P E c ⟨n, ch i ++ pickEnv ks env, ow i own, F, D⟩ (thenQ (fun s => ∃ j, p j ∧ μ j < μ i ∧ Wk s ⟨n, ch j ++ pickEnv ks env, ow j own, F, D⟩) Q)) : J P E (.loop c) ⟨n, env, own, F, D⟩ Q :=
  J.loop (fun i => ⟨n, ch i ++ pickEnv ks env, ow i own, F, D⟩) p μ i0 h0 hw round

theorem Reown.dropN (k : Nat) (own : List Own) {own' : List Own} (h : own.drop k = own') : Reown own own' := by
  subst h
  have := Reown.drop (own.take k) (own.drop k)
  rwa [List.take_append_drop] at this
end
end Go.Proofs.Ytkiankpmkglhcaa.J
