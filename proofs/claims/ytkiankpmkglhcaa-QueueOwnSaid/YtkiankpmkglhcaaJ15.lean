/- A region that draws its order, with calls and stores that turn what is owned among its operations: whatever the order, all reads as in the order of the text. -/
import Derived.Test.YtkiankpmkglhcaaJ14
namespace Go.Proofs.Ytkiankpmkglhcaa.J
open Go Go.RowKit
set_option linter.unusedVariables false
set_option linter.unusedSimpArgs false

/-- What the loud operations have come to, the latest first: their values, and what was owned behind each. -/
abbrev Outs := List (AV × List Own)
def curO (own : List Own) : Outs → List Own
  | [] => own
  | (_, o) :: _ => o
/-- Right so far: R of each. -/
def vdO (own : List Own) (R : Outs → List Own → AV → List Own → Prop) : Outs → Prop
  | [] => True
  | (x, o) :: os => R os (curO own os) x o ∧ vdO own R os
def nthO (os : Outs) (j : Nat) : AV := ((os.reverse)[j]?.map (·.1)).getD (.c undef)
/-- A slot's value: told, or the j-th loud operation's. -/
abbrev Slot := Nat × (AV ⊕ Nat)
def valO (os : Outs) : AV ⊕ Nat → AV
  | .inl x => x
  | .inr j => nthO os j
def stepsO (os : Outs) (l : List Slot) : List (Nat × AV) := l.map fun p => (p.1, valO os p.2)

theorem nthO_cons {os : Outs} {p : AV × List Own} {j : Nat} (h : j < os.length) : nthO (p :: os) j = nthO os j := by
  unfold nthO
  rw [List.reverse_cons, List.getElem?_append_left (by simpa using h)]
theorem nthO_last {os : Outs} {p : AV × List Own} : nthO (p :: os) os.length = p.1 := by
  unfold nthO
  rw [List.reverse_cons, List.getElem?_append_right (by simp)]
  simp

/-- An operation that turns what the call owns, or panics. -/
def LStepR (P : Program) (E : Ent) (Q : Exit → St → Prop) (st : St) (R : List Own → AV → List Own → Prop) (o : Oper) : Prop :=
  ∀ A a w, SatA E A st a w → ∀ (K : Act → World → Prop),
    (∀ v x own' w' A', R st.own x own' → Frm w A w' A' → SatA E A' ⟨st.n, st.env, own', st.facts, st.dfs⟩ a w' → Rd w' A' v x → K (a.put o.dst v) w') → o.wpIn (fen E.rd) 0 P a w K (lift E Q)

def EnvOkR (o : Oper) (don : List Slot) (env env' : List (Nat × AV)) : Prop := ∀ s x, lk env' s = some x → (∃ j, depsOk o [j] = true ∧ don[j]? = some (s, .inl x)) ∨ lk env s = some x

/-- With what the loud ones have come to. -/
def EnvOkO (o : Oper) (don : List Slot) (env env' : List (Nat × AV)) (os : Outs) : Prop := ∀ s x, lk env' s = some x → (∃ j z, depsOk o [j] = true ∧ don[j]? = some (s, z) ∧ x = valO os z) ∨ lk env s = some x

inductive AnyR (P : Program) (E : Ent) (Q : Exit → St → Prop) (ops : Array Oper) (n : Nat) (env : List (Nat × AV)) (own : List Own) (R : Outs → List Own → AV → List Own → Prop) (M : Nat) (F : List (Value × AV)) (D : List Deferred) : Nat → Nat → Nat → List Oper → List Slot → List Slot → List (Option Nat) → Prop
  | nil (i p : Nat) (don : List Slot) : AnyR P E Q ops n env own R M F D i M p [] don don []
  | quiet {i j p : Nat} {o : Oper} {os : List Oper} {don all : List Slot} {lv : List (Option Nat)} {d : Nat} {x : AV} {env' : List (Nat × AV)} (hd : o.dst = some d) (hn : Nat.blt d n = true) (he : EnvOkR o don env env')
      (hs : ∀ os', vdO own R os' → os'.length ≤ M → Step P E ops ⟨n, env', curO own os', F, D⟩ o x) (h : AnyR P E Q ops n env own R M F D (i + 1) j p os (don ++ [(d, .inl x)]) all lv) : AnyR P E Q ops n env own R M F D i j p (o :: os) don all (none :: lv)
  | loud {i j p : Nat} {o : Oper} {os : List Oper} {don all : List Slot} {lv : List (Option Nat)} {env' : Outs → List (Nat × AV)} {s : Nat} (hd : (o.dst = none ∧ s = n + i ∧ ∀ os ow x o', R os ow x o' → os.length = j → x = .c undef) ∨ (o.dst = some s ∧ s < n)) (hg : o.guard = none) (he : ∀ os', os'.length = j → EnvOkO o don env (env' os') os') (hp : (Nat.beq j 0 || depsOk o [p]) = true)
      (hs : ∀ os', vdO own R os' → os'.length = j → LStepR P E Q ⟨n, env' os', curO own os', F, D⟩ (R os') o) (h : AnyR P E Q ops n env own R M F D (i + 1) (j + 1) i os (don ++ [(s, .inr j)]) all lv) : AnyR P E Q ops n env own R M F D i j p (o :: os) don all (some j :: lv)

section
variable {P : Program} {E : Ent} {Q : Exit → St → Prop} {n : Nat} {env : List (Nat × AV)} {own : List Own} {R : Outs → List Own → AV → List Own → Prop} {M : Nat} {F : List (Value × AV)} {D : List Deferred} {ops : Array Oper}

theorem AnyR.get {i j p : Nat} {os : List Oper} {don all : List Slot} {lv : List (Option Nat)} (h : AnyR P E Q ops n env own R M F D i j p os don all lv) (hi : don.length = i) :
    (∃ r, all = don ++ r) ∧ all.length = don.length + os.length ∧ lv.length = os.length ∧ j ≤ M ∧
    (∀ (k q : Nat), lv[k]? = some (some q) → j ≤ q ∧ q < M) ∧
    (∀ (k k' q : Nat), lv[k]? = some (some q) → lv[k']? = some (some q) → k = k') ∧
    (∀ q, j ≤ q → q < M → ∃ k : Nat, lv[k]? = some (some q)) ∧
    ∀ k o, os[k]? = some o →
      (lv[k]? = some none ∧ ∃ d x env', all[i + k]? = some (d, .inl x) ∧ o.dst = some d ∧ d < n ∧ EnvOkR o (all.take (i + k)) env env' ∧ ∀ os', vdO own R os' → os'.length ≤ M → Step P E ops ⟨n, env', curO own os', F, D⟩ o x) ∨
      (∃ (q : Nat) (env' : Outs → List (Nat × AV)) (s : Nat), lv[k]? = some (some q) ∧ all[i + k]? = some (s, .inr q) ∧ ((o.dst = none ∧ s = n + (i + k) ∧ ∀ os ow x o', R os ow x o' → os.length = q → x = .c undef) ∨ (o.dst = some s ∧ s < n)) ∧ o.guard = none ∧ (∀ os', os'.length = q → EnvOkO o (all.take (i + k)) env (env' os') os') ∧ (∀ os', vdO own R os' → os'.length = q → LStepR P E Q ⟨n, env' os', curO own os', F, D⟩ (R os') o) ∧
        (q = j → j = 0 ∨ depsOk o [p] = true) ∧ (j < q → ∃ k', lv[k']? = some (some (q - 1)) ∧ depsOk o [i + k'] = true)) := by
  induction h with
  | nil i p don => exact ⟨⟨[], by simp⟩, by simp, rfl, Nat.le_refl _, fun k q h => by simp at h, fun k k' q h => by simp at h, fun q h1 h2 => by omega, fun k o h => by simp at h⟩
  | quiet hd hn hds hs _ ih =>
    rename_i i j p o os don all lv d x env' _
    obtain ⟨⟨r, hr⟩, hl, hlv, hjM, hq, hinj, hsur, hk⟩ := ih (by simp [hi])
    refine ⟨⟨(d, .inl x) :: r, by rw [hr]; simp⟩, by simp at hl ⊢; omega, by simp [hlv], hjM, fun k q hkq => ?_, fun k k' q h1 h2 => ?_, fun q h1 h2 => (by obtain ⟨k, hk'⟩ := hsur q h1 h2; exact ⟨k + 1, by simpa using hk'⟩), fun k o' ho' => ?_⟩
    · cases k with
      | zero => simp at hkq
      | succ k => exact hq k q (by simpa using hkq)
    · cases k with
      | zero => simp at h1
      | succ k =>
        cases k' with
        | zero => simp at h2
        | succ k' => rw [hinj k k' q (by simpa using h1) (by simpa using h2)]
    · cases k with
      | zero =>
        simp at ho'; subst ho'
        have : all.take (i + 0) = don := by rw [hr, ← hi]; simp
        exact .inl ⟨by simp, d, x, env', by rw [hr, ← hi]; simp, hd, blt_lt hn, by rw [this]; exact hds, hs⟩
      | succ k =>
        have := hk k o' (by simpa using ho')
        rw [show i + (k + 1) = i + 1 + k by omega]
        rcases this with ⟨h1, h2⟩ | ⟨q, ds', s', h1, h2, h3, h4, h5, h6, h7, h8⟩
        · exact .inl ⟨by simpa using h1, h2⟩
        · refine .inr ⟨q, ds', s', by simpa using h1, h2, h3, h4, h5, h6, h7, fun hlt => ?_⟩
          obtain ⟨k', hk', hd'⟩ := h8 hlt
          exact ⟨k' + 1, by simpa using hk', by rw [show i + (k' + 1) = i + 1 + k' by omega]; exact hd'⟩
  | loud hd hg hds hp hs _ ih =>
    rename_i i j p o os don all lv env' s _
    obtain ⟨⟨r, hr⟩, hl, hlv, hjM, hq, hinj, hsur, hk⟩ := ih (by simp [hi])
    refine ⟨⟨(s, .inr j) :: r, by rw [hr]; simp⟩, by simp at hl ⊢; omega, by simp [hlv], by omega, fun k q hkq => ?_, fun k k' q h1 h2 => ?_, fun q h1 h2 => (by
      by_cases he : q = j
      · exact ⟨0, by simp [he]⟩
      · obtain ⟨k, hk'⟩ := hsur q (by omega) h2; exact ⟨k + 1, by simpa using hk'⟩), fun k o' ho' => ?_⟩
    · cases k with
      | zero => simp at hkq; omega
      | succ k => have := hq k q (by simpa using hkq); omega
    · cases k with
      | zero =>
        cases k' with
        | zero => rfl
        | succ k' => simp at h1 h2; have := hq k' q h2; omega
      | succ k =>
        cases k' with
        | zero => simp at h1 h2; have := hq k q h1; omega
        | succ k' => rw [hinj k k' q (by simpa using h1) (by simpa using h2)]
    · cases k with
      | zero =>
        simp at ho'; subst ho'
        have : all.take (i + 0) = don := by rw [hr, ← hi]; simp
        refine .inr ⟨j, env', s, by simp, by rw [hr, ← hi]; simp, by simpa using hd, hg, by rw [this]; exact hds, hs, fun _ => ?_, fun h => by omega⟩
        · simp only [Bool.or_eq_true] at hp
          exact hp.imp Nat.eq_of_beq_eq_true id
      | succ k =>
        have := hk k o' (by simpa using ho')
        rw [show i + (k + 1) = i + 1 + k by omega]
        rcases this with ⟨h1, h2⟩ | ⟨q, ds', s', h1, h2, h3, h4, h5, h6, h7, h8⟩
        · exact .inl ⟨by simpa using h1, h2⟩
        · have hjq := (hq k q h1).1
          refine .inr ⟨q, ds', s', by simpa using h1, h2, h3, h4, h5, h6, fun h => by omega, fun hlt => ?_⟩
          by_cases he : q = j + 1
          · refine ⟨0, by simp [he], ?_⟩
            rcases h7 he with h7 | h7
            · omega
            · simpa using h7
          · obtain ⟨k', hk', hd'⟩ := h8 (by omega)
            exact ⟨k' + 1, by simpa using hk', by rw [show i + (k' + 1) = i + 1 + k' by omega]; exact hd'⟩

theorem J.region_out {id : Nat} {l pre tail : List Oper} {steps : List Slot} {lv : List (Option Nat)} (hm : P.follows .mixedOrders = true) (hl : l = pre ++ tail) (hnd : nodupB (dsts pre) = true) (hbk : backB 0 l = true) (ht : tailOk pre.length l = true)
    (hany : AnyR P E Q l.toArray n (dropEnv (dsts pre) env) own R M F D 0 0 0 pre [] steps lv)
    (h : ∀ os', vdO own R os' → os'.length = M → JL P E l.toArray tail ⟨n, stepsO os' steps ++ dropEnv (dsts pre) env, curO own os', F, D⟩ Q) :
    J P E (.region id l.toArray true) ⟨n, env, own, F, D⟩ Q := fun a₀ w₀ ⟨A₀, hA₀⟩ => by
  obtain ⟨_, hlen, hlvl, _, hlq, hinj, hsur, hst⟩ := hany.get rfl
  simp only [List.length_nil, Nat.zero_add] at hlen hst
  have hsize : l.toArray.size = pre.length + tail.length := by simp [hl]
  have hpre : ∀ i o, i < pre.length → (l.toArray[i]? = some o ↔ pre[i]? = some o) := fun i o hi => by simp [hl, List.getElem?_append_left hi]
  let k := pre.length
  let Inv : Array Bool → Foot → Act → World → Prop := fun L A a w => ∃ os', vdO own R os' ∧ os'.length ≤ M ∧ SatA E A ⟨n, dropEnv (dsts pre) env, curO own os', F, D⟩ a w ∧
    (∀ i d x, steps[i]? = some (d, x) → L.getD i false = true → Rd w A (a.tmps.getD d undef) (valO os' x)) ∧
    (∀ i o, l.toArray[i]? = some o → L.getD i false = true → ∀ e ∈ o.after, Region.binds .any e = true → L.getD e.on false = true) ∧
    (∀ i, pre.length ≤ i → L.getD i false = false) ∧ (∀ i q : Nat, lv[i]? = some (some q) → (L.getD i false = true ↔ q < os'.length))
  have hdone : ∀ fuel L A a w, L.size = l.toArray.size → tail.length ≤ fuel → (∀ i, i < pre.length → L.getD i true = true) → Inv L A a w → wpAnyIn (fen E.rd) 0 P .any l.toArray (lift E Q) fuel L a w := by
    intro fuel L A a w hsz hf hall ⟨os', hvd, hmM, h1, h2, h3, h4, h5⟩
    obtain ⟨m, hmm⟩ : ∃ m, m = os'.length := ⟨_, rfl⟩
    rw [← hmm] at hmM h5
    have hall' : ∀ i, i < pre.length → L.getD i false = true := fun i hi => by rw [← getD_same (by omega)]; exact hall i hi
    have hm' : m = M := by
      apply Nat.le_antisymm hmM
      apply Nat.le_of_not_lt
      intro hlt
      obtain ⟨i, hi⟩ := hsur m (Nat.zero_le _) hlt
      have hil : i < pre.length := by have := (List.getElem?_eq_some_iff.1 hi).1; omega
      have := (h5 i m hi).1 (hall' i hil)
      omega
    rw [hm'] at hmm
    refine wp_tail (k := pre.length) (by simpa using ht) (by simpa using hbk) fuel pre.length L a w (Nat.le_refl _) (by omega) (by omega) hsz hall' h4 ?_
    have htl : l.toArray.toList.drop pre.length = tail := by simp [hl]
    rw [htl]
    refine h os' hvd hmm.symm a w ⟨A, h1.size, h1.defers, h1.keep, h1.hp, fun s x hl' => ?_, h1.facts⟩
    have hget : ∀ (l' : List (Nat × AV)) (env' : List (Nat × AV)), lk (l' ++ env') s = some x → (∃ i : Nat, l'[i]? = some (s, x)) ∨ lk env' s = some x := by
      intro l' env'
      induction l' with
      | nil => intro h; exact .inr h
      | cons p l' ih =>
        intro h
        obtain ⟨j, y⟩ := p
        rcases lk_cons h with ⟨rfl, rfl⟩ | ⟨_, h⟩
        · exact .inl ⟨0, rfl⟩
        · rcases ih h with ⟨i, hi⟩ | h
          · exact .inl ⟨i + 1, by simpa using hi⟩
          · exact .inr h
    rcases hget _ _ hl' with ⟨i, hi⟩ | hl'
    · simp only [stepsO, List.getElem?_map] at hi
      cases hsi : steps[i]? with
      | none => rw [hsi] at hi; cases hi
      | some p =>
        obtain ⟨s', z⟩ := p
        rw [hsi] at hi
        simp only [Option.map_some, Option.some.injEq, Prod.mk.injEq] at hi
        obtain ⟨rfl, rfl⟩ := hi
        exact h2 i s' z hsi (hall' i (by have := (List.getElem?_eq_some_iff.1 hsi).1; omega))
    · exact h1.env s x hl'
  have key : ∀ fuel L A a w, L.size = l.toArray.size → cnt pre.length (fun i => !L.getD i true) + tail.length ≤ fuel → Inv L A a w → wpAnyIn (fen E.rd) 0 P .any l.toArray (lift E Q) fuel L a w := by
    intro fuel
    induction fuel with
    | zero =>
      intro L A a w hsz hc hinv
      refine hdone 0 L A a w hsz (by omega) (fun i hi => ?_) hinv
      have h0 : cnt pre.length (fun i => !L.getD i true) = 0 := by omega
      have := List.countP_eq_zero.1 h0 i (by simpa using hi)
      simpa using this
    | succ fuel ih =>
      intro L A a w hsz hc hinv
      by_cases hall : ∀ i, i < pre.length → L.getD i true = true
      · exact hdone _ L A a w hsz (by omega) hall hinv
      have hinv' := hinv
      obtain ⟨os', hvd, hmM, h1, h2, h3, h4, h5⟩ := hinv
      refine ⟨fun hr => ?_, fun i hi => ?_⟩
      · exfalso
        apply hall
        intro i
        induction i using Nat.strongRecOn with
        | _ i ihi =>
          intro hlt
          cases hL : L.getD i true with
          | true => rfl
          | false =>
            exfalso
            obtain ⟨o, ho⟩ : ∃ o, l.toArray[i]? = some o := ⟨_, Array.getElem?_eq_getElem (by omega)⟩
            have : i ∈ Region.ready .any l.toArray L := ready_mem hsz ho hL fun e he hb => by
              have hon := backB_lt hbk (i := i) (o := o) (by simpa using ho) e he hb
              rw [← getD_same (by omega)]
              exact ihi e.on (by omega) (by omega)
            rw [hr] at this
            cases this
      · obtain ⟨hlt, o, ho, hunl, hdeps⟩ := mem_ready hi
        have hik : i < pre.length := by
          apply Nat.lt_of_not_le
          intro hge
          apply hall
          intro j hj
          rw [getD_same (by omega)]
          exact (tail_closed (k := pre.length) (by simpa using ht) (by simpa using hbk) h3 ho hdeps hge).1 j hj
        have ho' : pre[i]? = some o := (hpre i o hik).1 ho
        have hunl' : L.getD i false = false := by rw [← getD_same (by omega)]; exact hunl
        have hcnt : cnt pre.length (fun j => !(L.setIfInBounds i true).getD j true) + tail.length ≤ fuel := by
          have := cnt_set (fun i => !L.getD i true) (fun j => !(L.setIfInBounds i true).getD j true) i (fun j hj => by rw [getD_set _ _ _ (by omega), if_neg hj]) (by simp [hunl]) (by rw [getD_set _ _ _ (by omega), if_pos rfl]; rfl) pre.length
          rw [if_pos hik] at this
          omega
        have hclo : ∀ j o', l.toArray[j]? = some o' → (L.setIfInBounds i true).getD j false = true → ∀ e ∈ o'.after, Region.binds .any e = true → (L.setIfInBounds i true).getD e.on false = true := by
          intro j o' ho2 hLj e he hb
          rw [getD_set _ _ _ (by omega)] at hLj ⊢
          split
          · rfl
          · by_cases hji : j = i
            · subst hji; rw [ho] at ho2; cases ho2; exact hdeps e he hb
            · rw [if_neg hji] at hLj; exact h3 j o' ho2 hLj e he hb
        have h4' : ∀ j, pre.length ≤ j → (L.setIfInBounds i true).getD j false = false := fun j hj => by rw [getD_set _ _ _ (by omega), if_neg (by omega)]; exact h4 j hj
        have hsat : ∀ (env' : List (Nat × AV)), EnvOkR o (steps.take i) (dropEnv (dsts pre) env) env' → SatA E A ⟨n, env', curO own os', F, D⟩ a w := by
          intro env' he
          refine ⟨h1.size, h1.defers, h1.keep, h1.hp, fun s y hl => ?_, h1.facts⟩
          rcases he s y hl with ⟨j, hj, hp⟩ | h
          · obtain ⟨e, he, hb, hon⟩ := depsOk_get hj (List.mem_singleton.2 rfl)
            have hLj := hdeps e he hb
            rw [hon] at hLj
            refine h2 j s (.inl y) ?_ hLj
            rw [List.getElem?_take] at hp
            split at hp
            · exact hp
            · cases hp
          · exact h1.env s y h
        have hsatO : ∀ (env' : List (Nat × AV)), EnvOkO o (steps.take i) (dropEnv (dsts pre) env) env' os' → SatA E A ⟨n, env', curO own os', F, D⟩ a w := by
          intro env' he
          refine ⟨h1.size, h1.defers, h1.keep, h1.hp, fun s y hl => ?_, h1.facts⟩
          rcases he s y hl with ⟨j, z, hj, hp, hz⟩ | h
          · obtain ⟨e, he, hb, hon⟩ := depsOk_get hj (List.mem_singleton.2 rfl)
            have hLj := hdeps e he hb
            rw [hon] at hLj
            rw [hz]
            refine h2 j s z ?_ hLj
            rw [List.getElem?_take] at hp
            split at hp
            · exact hp
            · cases hp
          · exact h1.env s y h
        -- a slot of another operation
        have hother : ∀ j d' x', steps[j]? = some (d', x') → j ≠ i → ∀ d, o.dst = some d → d < n → d ≠ d' := by
          intro j d' x' hj hji d hd hdn hdd
          subst hdd
          have hjlt : j < pre.length := by have := (List.getElem?_eq_some_iff.1 hj).1; omega
          obtain ⟨oj, hoj⟩ : ∃ oj, pre[j]? = some oj := ⟨_, List.getElem?_eq_getElem hjlt⟩
          rcases hst j oj hoj with ⟨_, dj, xj, _, hsj, hdj, _⟩ | ⟨_, _, sj, _, hsj, hdj, _⟩
          · rw [hsj] at hj; cases hj
            exact hji (nodupB_ne hnd hoj ho' hdj hd)
          · rw [hsj] at hj
            have h7 := (Prod.mk.inj (Option.some.inj hj)).1
            rcases hdj with ⟨_, hdj, _⟩ | ⟨hdj, _⟩
            · exact absurd hdn (by rw [← h7, hdj]; exact Nat.not_lt.2 (Nat.le_add_right _ _))
            · rw [h7] at hdj
              exact hji (nodupB_ne hnd hoj ho' hdj hd)
        rcases hst i o ho' with ⟨hlv, d, x, env', hsx, hd, hdn, hds, hstep⟩ | ⟨q, env', sl, hlv, hsx, hd, hg, hds, hstep, hq0, hqp⟩
        · have hput : ∀ (v : Value) (w' : World) (A' : Foot), Frm w A w' A' → SatA E A' ⟨n, env', curO own os', F, D⟩ a w' → Rd w' A' v x →
              wpAnyIn (fen E.rd) 0 P .any l.toArray (lift E Q) fuel (L.setIfInBounds i true) (a.put o.dst v) w' := by
            intro v w' A' hf hs' hv
            refine ih _ A' _ w' (by simpa using hsz) hcnt ⟨os', hvd, hmM, ⟨?_, by rw [hd]; exact hs'.defers, hs'.keep, hs'.hp, fun s y hl => ?_, hs'.facts⟩, fun j d' x' hj hLj => ?_, hclo, h4', fun j q hjq => ?_⟩
            · have := hs'.size; simp only [Act.put, hd, Array.size_setIfInBounds]; exact this
            · rw [hd]
              have hne : d ≠ s := by
                intro hds'
                subst hds'
                have := (lk_filter (fun k => !((dsts pre).any (Nat.beq k))) env d y hl).2
                simp only [Bool.not_eq_true'] at this
                have hm := List.any_eq_false.1 this d (dsts_mem ho' hd)
                simp at hm
              rw [put_getD_ne hne]
              exact hf _ _ (h1.env s y hl)
            · rw [getD_set _ _ _ (by omega)] at hLj
              by_cases hji : j = i
              · subst hji
                rw [hsx] at hj; cases hj
                rw [hd, put_getD_same (by have := hs'.size; simp only at this; rw [this]; exact hdn)]
                exact hv
              · rw [if_neg hji] at hLj
                rw [hd, put_getD_ne (hother j d' x' hj hji d hd hdn)]
                exact hf _ _ (h2 j d' x' hj hLj)
            · rw [getD_set _ _ _ (by omega)]
              by_cases hji : j = i
              · subst hji; rw [hlv] at hjq; cases hjq
              · rw [if_neg hji]; exact h5 j q hjq
          have hs := hstep os' hvd hmM A a w (hsat env' hds) (wpAnyIn (fen E.rd) 0 P .any l.toArray (lift E Q) fuel (L.setIfInBounds i true)) (lift E Q) hput
          unfold wpOpIn
          simp only [ho]
          split
          · rename_i hw; rw [if_pos hw] at hs; exact hs
          · rename_i hw; rw [if_neg hw] at hs; exact ⟨fun _ _ => trivial, hs⟩
        · -- one that turns what is owned: it is its turn
          have hqM := (hlq i q hlv).2
          have hmq : os'.length = q := by
            have h6 : ¬ q < os'.length := fun h => by have := (h5 i q hlv).2 h; rw [hunl'] at this; cases this
            by_cases hq : 0 < q
            · obtain ⟨k', hk', hd'⟩ := hqp hq
              obtain ⟨e, he, hb, hon⟩ := depsOk_get hd' (List.mem_singleton.2 rfl)
              have := hdeps e he hb
              rw [hon] at this
              have := (h5 k' (q - 1) hk').1 this
              omega
            · omega
          have hs := hstep os' hvd hmq A a w (hsatO _ (hds os' hmq)) (wpAnyIn (fen E.rd) 0 P .any l.toArray (lift E Q) fuel (L.setIfInBounds i true)) (by
            intro v x own' w' A' hR hf hs' hv
            have hvd' : vdO own R ((x, own') :: os') := ⟨hR, hvd⟩
            have hold : ∀ z : AV ⊕ Nat, (∀ j, z = .inr j → j < os'.length) → valO ((x, own') :: os') z = valO os' z := fun z hz => by
              cases z with
              | inl z => rfl
              | inr j => exact nthO_cons (hz j rfl)
            have hsl : ∀ j d' x', steps[j]? = some (d', x') → L.getD j false = true → ∀ jj, x' = .inr jj → jj < os'.length := fun j d' x' hj hLj jj hx' => by
              subst hx'
              have hjlt : j < pre.length := by have := (List.getElem?_eq_some_iff.1 hj).1; omega
              obtain ⟨oj, hoj⟩ : ∃ oj, pre[j]? = some oj := ⟨_, List.getElem?_eq_getElem hjlt⟩
              rcases hst j oj hoj with ⟨_, dj, xj, _, hsj, _⟩ | ⟨qj, _, sj, hlvj, hsj, _⟩
              · rw [hsj] at hj; cases hj
              · rw [hsj] at hj; cases hj
                exact (h5 j _ hlvj).1 hLj
            have hputslot : ∀ d', (∀ d, o.dst = some d → d < n → d ≠ d') → (a.put o.dst v).tmps.getD d' undef = a.tmps.getD d' undef := fun d' hne => by
              rcases hd with ⟨hd, _⟩ | ⟨hd, hdn⟩
              · rw [hd]; rfl
              · rw [hd]; exact put_getD_ne (hne _ hd hdn)
            refine ih _ A' _ w' (by simpa using hsz) hcnt ⟨(x, own') :: os', hvd', by simp only [List.length_cons]; omega, ⟨?_, by
                have := hs'.defers
                rcases hd with ⟨hd, _⟩ | ⟨hd, _⟩ <;> (rw [hd]; exact this), hs'.keep, hs'.hp, fun s y hl => ?_, hs'.facts⟩, fun j d' x' hj hLj => ?_, hclo, h4', fun j q' hjq => ?_⟩
            · have := hs'.size
              rcases hd with ⟨hd, _⟩ | ⟨hd, _⟩
              · rw [hd]; exact this
              · simp only [Act.put, hd, Array.size_setIfInBounds]; exact this
            · rw [hputslot s (fun d hd' hdn hds' => by
                subst hds'
                have := (lk_filter (fun k => !((dsts pre).any (Nat.beq k))) env d y hl).2
                simp only [Bool.not_eq_true'] at this
                have hm := List.any_eq_false.1 this d (dsts_mem ho' hd')
                simp at hm)]
              exact hf _ _ (h1.env s y hl)
            · rw [getD_set _ _ _ (by omega)] at hLj
              by_cases hji : j = i
              · subst hji
                rw [hsx] at hj; cases hj
                show Rd w' A' _ (nthO ((x, own') :: os') q)
                rw [← hmq, nthO_last]
                rcases hd with ⟨hd, hsl', hru⟩ | ⟨hd, hdn⟩
                · have hu : (a.put o.dst v).tmps.getD sl undef = undef := by
                    have := h1.size
                    simp only at this
                    rw [hd, hsl']
                    simp [Act.put, Array.getD_eq_getD_getElem?, Array.getElem?_eq_none, this]
                  rw [hu, hru _ _ _ _ hR hmq]
                  exact .c _
                · rw [hd, put_getD_same (by have := hs'.size; simp only at this; rw [this]; exact hdn)]
                  exact hv
              · rw [if_neg hji] at hLj
                rw [hputslot d' (fun d hd' hdn => hother j d' x' hj hji d hd' hdn), hold x' (hsl j d' x' hj hLj)]
                exact hf _ _ (h2 j d' x' hj hLj)
            · rw [getD_set _ _ _ (by omega)]
              by_cases hji : j = i
              · subst hji; rw [hlv] at hjq; cases hjq; simp [hmq]
              · rw [if_neg hji, h5 j q' hjq]
                have : q' ≠ q := fun he => hji (hinj j i q (he ▸ hjq) hlv)
                simp only [List.length_cons]; omega)
          unfold wpOpIn
          simp only [ho]
          rw [if_pos (by simp [Region.wanted, hg])]
          exact hs
  refine wpIn_region_any hm (key l.toArray.size _ A₀ a₀ _ (by simp) ?_ ⟨[], trivial, Nat.zero_le _, ⟨hA₀.size, hA₀.defers, hA₀.draw.keep, hA₀.hp.draw, fun s y hl => ?_, fun p hp => ?_⟩, fun i d x hi hL => ?_, fun i o ho hL => ?_, fun i _ => ?_, fun i q hq => ?_⟩)
  · have : cnt pre.length (fun i => !(Array.replicate l.toArray.size false).getD i true) ≤ pre.length := Nat.le_trans List.countP_le_length (by simp)
    omega
  · exact (hA₀.draw.env s y (lk_filter (fun k => !((dsts pre).any (Nat.beq k))) env s y hl).1)
  · exact hA₀.draw.facts p hp
  · simp only [Array.getD_eq_getD_getElem?, Array.getElem?_replicate] at hL; split at hL <;> simp at hL
  · simp only [Array.getD_eq_getD_getElem?, Array.getElem?_replicate] at hL; split at hL <;> simp at hL
  · simp only [Array.getD_eq_getD_getElem?, Array.getElem?_replicate]; split <;> simp
  · simp only [Array.getD_eq_getD_getElem?, Array.getElem?_replicate]; split <;> simp
end
end Go.Proofs.Ytkiankpmkglhcaa.J
