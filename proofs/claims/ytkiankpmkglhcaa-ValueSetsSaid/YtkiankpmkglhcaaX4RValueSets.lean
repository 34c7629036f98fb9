/- Texts of this proof, laid together. -/
import Derived.Test.YtkiankpmkglhcaaX3RValueSets
/- Regions that draw their order, part by part: single operations that all later ones wait for, and groups of quiet ones. -/
namespace Go.Proofs.Ytkiankpmkglhcaa.J
open Go Go.RowKit
set_option linter.unusedVariables false
set_option linter.unusedSimpArgs false
/-- Each operation behind the k-th waits for one from the k-th on. -/
def botOk (k : Nat) (l : List Oper) : Bool := (List.range' (k + 1) (l.length - (k + 1))).all fun j => (List.range' k (j - k)).any fun i => hasDep l j i
/-- Each operation from k on, ahead of m, is one that a later one, up to m, waits for; and all behind m wait for one from m on. -/
def grpOk (k m : Nat) (l : List Oper) : Bool := Nat.beq m l.length || ((List.range' k (m - k)).all (fun j => (List.range' (j + 1) (m - j)).any fun i => hasDep l i j) && botOk m l)
structure Done (k : Nat) (ops : Array Oper) (L : Array Bool) : Prop where
  size : L.size = ops.size
  yes : ∀ i, i < k → L.getD i false = true
  no : ∀ i, k ≤ i → L.getD i false = false
/-- The rest of a region, of which the first k operations are done. -/
def JA (P : Program) (E : Ent) (ops : Array Oper) (k : Nat) (st : St) (Q : Exit → St → Prop) : Prop :=
  ∀ fuel L a w, Done k ops L → k ≤ ops.size → ops.size - k ≤ fuel → Sat E st a w → wpAnyIn (fen E.rd) 0 P .any ops (lift E Q) fuel L a w
section
variable {P : Program} {E : Ent} {Q : Exit → St → Prop} {n : Nat} {env : List (Nat × AV)} {own : List Own} {F : List (Value × AV)} {D : List Deferred} {ops : Array Oper} {st : St}
theorem Oper.wpIn_monoQ {Fn : Fence} {m : Nat} {o : Oper} {a : Act} {w : World} {K : Act → World → Prop} {Q Q' : Exit → Act → World → Prop} (hp : ∀ ch a w, Q (.panic ch) a w → Q' (.panic ch) a w) (hl : LetsOut Q → LetsOut Q')
    (hh : o.wpIn Fn m P a w K Q) : o.wpIn Fn m P a w K Q' := by
  unfold Oper.wpIn at *
  refine ⟨hh.1, ?_⟩
  have hh := hh.2
  generalize (o.semAt Fn.round a.eval).run P w = r at *
  cases r with
  | ok x w' =>
    cases x <;> simp only [Oper.uponIn] at hh ⊢ <;>
      first
        | exact hh
        | exact ⟨hh.1, CallsIn.mono hh.2 (fun e w'' he => by cases e <;> first | exact he | exact hp _ _ _ he | exact hl he)⟩
        | exact ⟨hh.1, RoundIn.mono hh.2 (fun e w'' he => by cases e <;> first | exact he | exact hp _ _ _ he | exact hl he)⟩
  | halt x w' => cases x <;> simp only [Oper.uponIn] at hh ⊢ <;> first | exact hh | exact hp _ _ _ hh
theorem JA.fin (k : Nat) (hk : k = ops.size) (h : Q .normal st) : JA P E ops k st Q := fun fuel L a w hD hle hf hs => by
  have hnil : Region.ready .any ops L = [] := by
    rw [List.eq_nil_iff_forall_not_mem]
    intro i hi
    obtain ⟨hlt, o, ho, hL, _⟩ := mem_ready hi
    rw [getD_same (by rw [hD.size]; exact hlt), hD.yes i (by omega)] at hL
    cases hL
  cases fuel with
  | zero => exact ⟨hnil, st, h, hs⟩
  | succ fuel => exact ⟨fun _ => ⟨st, h, hs⟩, fun i hi => by rw [hnil] at hi; cases hi⟩
theorem bot_dep {k j : Nat} (hb : botOk k ops.toList = true) (hk : k < j) (hj : j < ops.size) : ∃ o, ops[j]? = some o ∧ ∃ e ∈ o.after, Region.binds .any e = true ∧ k ≤ e.on ∧ e.on < j := by
  unfold botOk at hb
  have := List.all_eq_true.1 hb j (by simp [List.mem_range']; exact ⟨j - (k + 1), by omega, by omega⟩)
  obtain ⟨i, hi, hd⟩ := List.any_eq_true.1 this
  simp [List.mem_range'] at hi
  obtain ⟨z, hz, rfl⟩ := hi
  obtain ⟨o, ho, e, he, hbe, hon⟩ := hasDep_iff hd
  exact ⟨o, by simpa using ho, e, he, hbe, by omega, by omega⟩
theorem lift_q {K : St → Prop} {e : Exit} {a : Act} {w : World} (he : e ≠ .normal) (h : lift E (thenQ K Q) e a w) : lift E Q e a w := by
  obtain ⟨s, h1, h2⟩ := h
  refine ⟨s, ?_, h2⟩
  cases e <;> first | exact h1 | exact absurd rfl he
/-- The next operation, that all later ones wait for. -/
theorem JA.one {k : Nat} {o : Oper} (ho : ops[k]? = some o) (hbk : backB 0 ops.toList = true) (hb : botOk k ops.toList = true) (h : JL P E ops [o] st (thenQ (fun s => JA P E ops (k + 1) s Q) Q)) : JA P E ops k st Q := fun fuel L a w hD hle hf hs => by
  have hlt : k < ops.size := (Array.getElem?_eq_some_iff.1 ho).1
  obtain ⟨fuel, rfl⟩ : ∃ f, fuel = f + 1 := ⟨fuel - 1, by omega⟩
  have hmem : k ∈ Region.ready .any ops L := ready_mem hD.size ho (by rw [getD_same (by rw [hD.size]; exact hlt)]; exact hD.no k (Nat.le_refl _)) fun e he hbe => hD.yes _ (by
    have := backB_lt hbk (i := k) (o := o) (by simpa using ho) e he hbe
    omega)
  refine ⟨fun hr => (by rw [hr] at hmem; cases hmem), fun i hi => ?_⟩
  obtain ⟨hil, o', ho', hL, hdeps⟩ := mem_ready hi
  have hik : i = k := by
    have h1 : k ≤ i := by
      apply Nat.le_of_not_lt
      intro h
      rw [getD_same (by rw [hD.size]; exact hil), hD.yes i h] at hL; cases hL
    by_cases he : i = k
    · exact he
    · obtain ⟨o2, ho2, e, he, hbe, h3, h4⟩ := bot_dep hb (by omega : k < i) hil
      rw [ho'] at ho2; cases ho2
      have := hdeps e he hbe
      rw [hD.no _ h3] at this; cases this
  subst hik
  have hl := h a w hs
  have hK : ∀ a' w', wpListIn (fen E.rd) 0 P ops (lift E (thenQ (fun s => JA P E ops (i + 1) s Q) Q)) [] a' w' → wpAnyIn (fen E.rd) 0 P .any ops (lift E Q) fuel (L.setIfInBounds i true) a' w' := fun a' w' ⟨s, hs1, hs2⟩ =>
    hs1 fuel _ a' w' ⟨by simpa using hD.size, fun j hj => by rw [getD_set _ _ _ (by rw [hD.size]; omega)]; split; rfl; exact hD.yes j (by omega), fun j hj => by rw [getD_set _ _ _ (by rw [hD.size]; omega), if_neg (by omega)]; exact hD.no j (by omega)⟩ (by omega) (by omega) hs2
  unfold wpOpIn
  simp only [ho]
  unfold wpListIn at hl
  split
  · rename_i hw
    rw [if_pos hw] at hl
    exact Oper.wpIn_monoQ (fun ch a w h => lift_q (by intro h; cases h) h) (fun h => by first | exact fun a w => lift_q (by intro h; cases h) (h a w) | exact h) (Oper.wpIn_mono hK hl)
  · rename_i hw
    rw [if_neg hw] at hl
    exact ⟨hl.1, hK _ _ hl.2⟩
/-- What an operation may know: what the operations of its group that it waits for have made, and what was there. -/
def EnvP (b : Nat) (o : Oper) (don env env' : List (Nat × AV)) : Prop := ∀ s x, lk env' s = some x → (∃ j, depsOk o [b + j] = true ∧ don[j]? = some (s, x)) ∨ lk env s = some x
inductive AnyP (P : Program) (E : Ent) (ops : Array Oper) (n : Nat) (env : List (Nat × AV)) (own : List Own) (F : List (Value × AV)) (D : List Deferred) (b : Nat) : List Oper → List (Nat × AV) → List (Nat × AV) → Prop
  | nil (don : List (Nat × AV)) : AnyP P E ops n env own F D b [] don don
  | cons {o : Oper} {os : List Oper} {don all : List (Nat × AV)} {d : Nat} {x : AV} {env' : List (Nat × AV)} (hd : o.dst = some d) (hn : Nat.blt d n = true) (he : EnvP b o don env env')
      (hs : Step P E ops ⟨n, env', own, F, D⟩ o x) (h : AnyP P E ops n env own F D b os (don ++ [(d, x)]) all) : AnyP P E ops n env own F D b (o :: os) don all
theorem AnyP.get {b : Nat} {os : List Oper} {don all : List (Nat × AV)} (h : AnyP P E ops n env own F D b os don all) : (∃ r, all = don ++ r ∧ r.length = os.length) ∧
    ∀ j o, os[j]? = some o → ∃ d x env', all[don.length + j]? = some (d, x) ∧ o.dst = some d ∧ d < n ∧ EnvP b o (all.take (don.length + j)) env env' ∧ Step P E ops ⟨n, env', own, F, D⟩ o x := by
  induction h with
  | nil don => exact ⟨⟨[], by simp, rfl⟩, fun j o h => by simp at h⟩
  | cons hd hn he hs _ ih =>
    rename_i o os don all d x env' _
    obtain ⟨⟨r, rfl, hr⟩, hk⟩ := ih
    refine ⟨⟨(d, x) :: r, by simp, by simp [hr]⟩, fun j o' ho' => ?_⟩
    cases j with
    | zero =>
      simp at ho'; subst ho'
      refine ⟨d, x, env', by simp, hd, blt_lt hn, ?_, hs⟩
      have : (don ++ [(d, x)] ++ r).take (don.length + 0) = don := by simp
      rw [this]; exact he
    | succ j =>
      have := hk j o' (by simpa using ho')
      rw [List.length_append, List.length_singleton, show don.length + 1 + j = don.length + (j + 1) by omega] at this
      exact this
/-- A group of quiet operations, in whatever order. -/
theorem JA.par {k m : Nat} {g : List Oper} {all : List (Nat × AV)} (hkm : k ≤ m) (hml : m ≤ ops.size) (hg : (ops.toList.drop k).take (m - k) = g) (hnd : nodupB (dsts g) = true) (hbk : backB 0 ops.toList = true) (hgr : grpOk k m ops.toList = true)
    (hany : AnyP P E ops n (dropEnv (dsts g) env) own F D k g [] all) (h : JA P E ops m ⟨n, all ++ dropEnv (dsts g) env, own, F, D⟩ Q) : JA P E ops k ⟨n, env, own, F, D⟩ Q := fun fuel₀ L₀ a₀ w₀ hD₀ hle₀ hf₀ ⟨A₀, hA₀⟩ => by
  obtain ⟨⟨_, hall0, hlen⟩, hst⟩ := hany.get
  rw [List.nil_append] at hall0
  subst hall0
  simp only [List.length_nil, Nat.zero_add] at hst
  have hgl : g.length = m - k := by rw [← hg]; simp; omega
  have hgi : ∀ j o, k ≤ j → j < m → (ops[j]? = some o ↔ g[j - k]? = some o) := fun j o h1 h2 => by
    rw [← hg, List.getElem?_take_of_lt (by omega), List.getElem?_drop, show k + (j - k) = j by omega]; simp
  let Inv : Array Bool → Foot → Act → World → Prop := fun L A a w => L.size = ops.size ∧ SatA E A ⟨n, dropEnv (dsts g) env, own, F, D⟩ a w ∧
    (∀ i d x, all[i]? = some (d, x) → L.getD (k + i) false = true → Rd w A (a.tmps.getD d undef) x) ∧
    (∀ i o, ops[i]? = some o → L.getD i false = true → ∀ e ∈ o.after, Region.binds .any e = true → L.getD e.on false = true) ∧
    (∀ i, i < k → L.getD i false = true) ∧ (∀ i, m ≤ i → L.getD i false = false)
  have hdone : ∀ fuel L A a w, ops.size - m ≤ fuel → (∀ i, k ≤ i → i < m → L.getD i false = true) → Inv L A a w → wpAnyIn (fen E.rd) 0 P .any ops (lift E Q) fuel L a w := by
    intro fuel L A a w hf hall ⟨h0, h1, h2, h3, h4, h5⟩
    refine h fuel L a w ⟨h0, fun i hi => ?_, h5⟩ hml hf ⟨A, h1.size, h1.defers, h1.keep, h1.hp, fun s x hl => ?_, h1.facts⟩
    · by_cases hik : i < k
      · exact h4 i hik
      · exact hall i (by omega) hi
    · rw [lk_append] at hl
      rcases hl with hl | ⟨_, hl⟩
      · obtain ⟨i, hi⟩ := List.getElem?_of_mem (lk_mem _ _ _ hl)
        have hil : i < m - k := by have := (List.getElem?_eq_some_iff.1 hi).1; omega
        exact h2 i s x hi (hall _ (by omega) (by omega))
      · exact h1.env s x hl
  have key : ∀ fuel L A a w, cnt m (fun i => !L.getD i true) + (ops.size - m) ≤ fuel → Inv L A a w → wpAnyIn (fen E.rd) 0 P .any ops (lift E Q) fuel L a w := by
    intro fuel
    induction fuel with
    | zero =>
      intro L A a w hc hinv
      refine hdone 0 L A a w (by omega) (fun i _ hi => ?_) hinv
      have h0 : cnt m (fun i => !L.getD i true) = 0 := by omega
      have := List.countP_eq_zero.1 h0 i (by simpa using hi)
      rw [← getD_same (by rw [hinv.1]; omega)]
      simpa using this
    | succ fuel ih =>
      intro L A a w hc hinv
      by_cases hall : ∀ i, k ≤ i → i < m → L.getD i false = true
      · exact hdone _ L A a w (by omega) hall hinv
      have hinv' := hinv
      obtain ⟨h0, h1, h2, h3, h4, h5⟩ := hinv
      refine ⟨fun hr => ?_, fun i hi => ?_⟩
      · exfalso
        apply hall
        intro i
        induction i using Nat.strongRecOn with
        | _ i ihi =>
          intro hki hlt
          cases hL : L.getD i false with
          | true => rfl
          | false =>
            exfalso
            obtain ⟨o, ho⟩ : ∃ o, ops[i]? = some o := ⟨_, Array.getElem?_eq_getElem (by omega)⟩
            have : i ∈ Region.ready .any ops L := ready_mem h0 ho (by rw [getD_same (by omega)]; exact hL) fun e he hb => by
              have hon := backB_lt hbk (i := i) (o := o) (by simpa using ho) e he hb
              by_cases hek : e.on < k
              · exact h4 _ hek
              · exact ihi e.on (by omega) (by omega) (by omega)
            rw [hr] at this
            cases this
      · obtain ⟨hlt, o, ho, hunl, hdeps⟩ := mem_ready hi
        have hunl' : L.getD i false = false := by rw [← getD_same (by omega)]; exact hunl
        have hki : k ≤ i := by
          apply Nat.le_of_not_lt
          intro h
          rw [h4 i h] at hunl'; cases hunl'
        have him : i < m := by
          apply Nat.lt_of_not_le
          intro hge
          apply hall
          unfold grpOk at hgr
          have hne : Nat.beq m ops.toList.length = false := by
            cases hb : Nat.beq m ops.toList.length with
            | false => rfl
            | true => have := Nat.eq_of_beq_eq_true hb; simp at this; omega
          rw [hne, Bool.false_or, Bool.and_eq_true] at hgr
          obtain ⟨t1, t2⟩ := hgr
          have hm : i = m := by
            by_cases he : i = m
            · exact he
            · obtain ⟨o2, ho2, e, he, hbe, h6, h7⟩ := bot_dep t2 (by omega : m < i) hlt
              rw [ho] at ho2; cases ho2
              have := hdeps e he hbe
              rw [h5 _ h6] at this; cases this
          subst hm
          have pre : ∀ d j, i - j = d → k ≤ j → j < i → L.getD j false = true := by
            intro d
            induction d using Nat.strongRecOn with
            | _ d ihd =>
              intro j h6 h7 h8
              have := List.all_eq_true.1 t1 j (by simp [List.mem_range']; exact ⟨j - k, by omega, by omega⟩)
              obtain ⟨i', hi', hd⟩ := List.any_eq_true.1 this
              simp [List.mem_range'] at hi'
              obtain ⟨z, hz, rfl⟩ := hi'
              obtain ⟨o', ho', e, he, hb, hon⟩ := hasDep_iff hd
              rw [← hon]
              have ho'' : ops[j + 1 + z]? = some o' := by simpa using ho'
              by_cases he' : j + 1 + z = i
              · rw [he', ho] at ho''
                cases ho''
                exact hdeps e he hb
              · exact h3 _ o' ho'' (ihd (i - (j + 1 + z)) (by omega) _ rfl (by omega) (by omega)) e he hb
          exact fun j hj1 hj2 => pre _ j rfl hj1 hj2
        have ho' : g[i - k]? = some o := (hgi i o hki him).1 ho
        have hcnt : cnt m (fun j => !(L.setIfInBounds i true).getD j true) + (ops.size - m) ≤ fuel := by
          have := cnt_set (fun i => !L.getD i true) (fun j => !(L.setIfInBounds i true).getD j true) i (fun j hj => by rw [getD_set _ _ _ (by omega), if_neg hj]) (by simp [hunl]) (by rw [getD_set _ _ _ (by omega), if_pos rfl]; rfl) m
          rw [if_pos him] at this
          omega
        have hclo : ∀ j o', ops[j]? = some o' → (L.setIfInBounds i true).getD j false = true → ∀ e ∈ o'.after, Region.binds .any e = true → (L.setIfInBounds i true).getD e.on false = true := by
          intro j o' ho2 hLj e he hb
          rw [getD_set _ _ _ (by omega)] at hLj ⊢
          split
          · rfl
          · by_cases hji : j = i
            · subst hji; rw [ho] at ho2; cases ho2; exact hdeps e he hb
            · rw [if_neg hji] at hLj; exact h3 j o' ho2 hLj e he hb
        obtain ⟨d, x, env', hsx, hd, hdn, hds, hstep⟩ := hst (i - k) o ho'
        have hsat : SatA E A ⟨n, env', own, F, D⟩ a w := by
          refine ⟨h1.size, h1.defers, h1.keep, h1.hp, fun s y hl => ?_, h1.facts⟩
          rcases hds s y hl with ⟨j, hj, hp⟩ | h
          · obtain ⟨e, he, hb, hon⟩ := depsOk_get hj (List.mem_singleton.2 rfl)
            have hLj := hdeps e he hb
            rw [hon] at hLj
            refine h2 j s y ?_ hLj
            rw [List.getElem?_take] at hp
            split at hp
            · exact hp
            · cases hp
          · exact h1.env s y h
        have hother : ∀ j d' x', all[j]? = some (d', x') → j ≠ i - k → d ≠ d' := by
          intro j d' x' hj hji hdd
          subst hdd
          have hjlt : j < g.length := by have := (List.getElem?_eq_some_iff.1 hj).1; omega
          obtain ⟨oj, hoj⟩ : ∃ oj, g[j]? = some oj := ⟨_, List.getElem?_eq_getElem hjlt⟩
          obtain ⟨dj, xj, _, hsj, hdj, _⟩ := hst j oj hoj
          rw [hsj] at hj; cases hj
          exact hji (nodupB_ne hnd hoj ho' hdj hd)
        have hput : ∀ (v : Value) (w' : World) (A' : Foot), Frm w A w' A' → SatA E A' ⟨n, env', own, F, D⟩ a w' → Rd w' A' v x →
            wpAnyIn (fen E.rd) 0 P .any ops (lift E Q) fuel (L.setIfInBounds i true) (a.put o.dst v) w' := by
          intro v w' A' hf hs' hv
          refine ih _ A' _ w' hcnt ⟨by simpa using h0, ⟨?_, by rw [hd]; exact hs'.defers, hs'.keep, hs'.hp, fun s y hl => ?_, hs'.facts⟩, fun j d' x' hj hLj => ?_, hclo, fun j hj => ?_, fun j hj => ?_⟩
          · have := hs'.size; simp only [Act.put, hd, Array.size_setIfInBounds]; exact this
          · rw [hd]
            have hne : d ≠ s := by
              intro hds'
              subst hds'
              have := (lk_filter (fun k => !((dsts g).any (Nat.beq k))) env d y hl).2
              simp only [Bool.not_eq_true'] at this
              have hm := List.any_eq_false.1 this d (dsts_mem ho' hd)
              simp at hm
            rw [put_getD_ne hne]
            exact hf _ _ (h1.env s y hl)
          · rw [getD_set _ _ _ (by omega)] at hLj
            by_cases hji : j = i - k
            · subst hji
              rw [hsx] at hj; cases hj
              rw [hd, put_getD_same (by have := hs'.size; simp only at this; rw [this]; exact hdn)]
              exact hv
            · rw [if_neg (by omega)] at hLj
              rw [hd, put_getD_ne (hother j d' x' hj hji)]
              exact hf _ _ (h2 j d' x' hj hLj)
          · rw [getD_set _ _ _ (by omega)]
            split
            · rfl
            · exact h4 j hj
          · rw [getD_set _ _ _ (by omega), if_neg (by omega)]; exact h5 j hj
        have hs := hstep A a w hsat (wpAnyIn (fen E.rd) 0 P .any ops (lift E Q) fuel (L.setIfInBounds i true)) (lift E Q) hput
        unfold wpOpIn
        simp only [ho]
        split
        · rename_i hw; rw [if_pos hw] at hs; exact hs
        · rename_i hw; rw [if_neg hw] at hs; exact ⟨fun _ _ => trivial, hs⟩
  have hc0 : cnt m (fun i => !L₀.getD i true) + (ops.size - m) ≤ fuel₀ := by
    have hcm : ∀ j, j ≤ m → cnt j (fun i => !L₀.getD i true) ≤ j - k := by
      intro j
      induction j with
      | zero => intro _; simp [cnt]
      | succ j ihj =>
        intro hj
        have := ihj (by omega)
        rw [cnt_succ]
        by_cases hjk : j < k
        · have h1 : L₀.getD j true = true := by rw [getD_same (by rw [hD₀.size]; omega)]; exact hD₀.yes j hjk
          simp only [h1, Bool.not_true, Bool.false_eq_true, if_false]
          omega
        · split <;> omega
    have := hcm m (Nat.le_refl _)
    omega
  refine key fuel₀ L₀ A₀ a₀ w₀ hc0 ⟨hD₀.size, ⟨hA₀.size, hA₀.defers, hA₀.keep, hA₀.hp, fun s y hl => ?_, hA₀.facts⟩, fun i d x hi hL => ?_, fun i o ho hL e he hb => ?_, hD₀.yes, fun i hi => hD₀.no i (by omega)⟩
  · exact hA₀.env s y (lk_filter (fun k => !((dsts g).any (Nat.beq k))) env s y hl).1
  · rw [hD₀.no _ (by omega)] at hL; cases hL
  · have hik : i < k := by
      apply Nat.lt_of_not_le
      intro h
      rw [hD₀.no i h] at hL; cases hL
    have := backB_lt hbk (i := i) (o := o) (by simpa using ho) e he hb
    exact hD₀.yes _ (by omega)
/-- A group, one by one; the latest first. -/
def ParK (P : Program) (E : Ent) (ops : Array Oper) (n : Nat) (env : List (Nat × AV)) (own : List Own) (F : List (Value × AV)) (D : List Deferred) (b i : Nat) (os : List Oper) (don : List (Nat × AV)) (K : List (Nat × AV) → Prop) : Prop :=
  i = b + don.length → ∃ all, AnyP P E ops n env own F D b os don.reverse all ∧ K all.reverse
theorem selP_get {o : Oper} {sl : List Nat} {env : List (Nat × AV)} {b : Nat} : ∀ {don : List (Nat × AV)} {i : Nat}, i = b + don.length → chk o sl don i = true → EnvP b o don.reverse env (sel sl don ++ env)
  | [], i, _, _ => fun s x h => .inr (by simpa [sel] using h)
  | (s0, x0) :: don, i, hi, h => fun s x hl => by
    have hi' : i - 1 = b + don.length := by simp at hi; omega
    have hrec : chk o sl don (i - 1) = true → lk (sel sl don ++ env) s = some x → (∃ j, depsOk o [b + j] = true ∧ ((s0, x0) :: don).reverse[j]? = some (s, x)) ∨ lk env s = some x := fun hc hl => by
      rcases selP_get (don := don) (i := i - 1) hi' hc s x hl with ⟨j, h1, h2⟩ | h
      · exact .inl ⟨j, h1, by rw [List.reverse_cons, List.getElem?_append_left (List.getElem?_eq_some_iff.1 h2).1]; exact h2⟩
      · exact .inr h
    unfold sel at hl
    unfold chk at h
    split at hl
    · rename_i hb
      rw [hb] at h
      simp only [Bool.and_eq_true] at h
      rcases lk_cons hl with ⟨rfl, rfl⟩ | ⟨_, hl⟩
      · exact .inl ⟨don.length, by rw [← hi']; exact h.1, by rw [List.reverse_cons, List.getElem?_append_right (by simp)]; simp⟩
      · exact hrec h.2 hl
    · rename_i hb
      rw [hb] at h
      exact hrec h hl
theorem ParK.nil {b i : Nat} {don : List (Nat × AV)} {K : List (Nat × AV) → Prop} (h : K don) : ParK P E ops n env own F D b i [] don K := fun _ => ⟨don.reverse, .nil _, by rw [List.reverse_reverse]; exact h⟩
theorem ParK.cons {b i : Nat} {o : Oper} {os : List Oper} {don : List (Nat × AV)} {K : List (Nat × AV) → Prop} {d : Nat} {x : AV} (sl : List Nat) (hd : o.dst = some d) (hn : Nat.blt d n = true) (hc : chk o sl don i = true)
    (hs : Step P E ops ⟨n, sel sl don ++ env, own, F, D⟩ o x) (h : ParK P E ops n env own F D b (i + 1) os ((d, x) :: don) K) : ParK P E ops n env own F D b i (o :: os) don K := fun hi => by
  obtain ⟨all, h1, h2⟩ := h (by simp; omega)
  rw [List.reverse_cons] at h1
  exact ⟨all, .cons hd hn (selP_get hi hc) hs h1, h2⟩
theorem lk_rev {l : List (Nat × AV)} (hu : ∀ (a b : Nat) (x y : AV) (s : Nat), l[a]? = some (s, x) → l[b]? = some (s, y) → a = b) {s : Nat} {x : AV} (h : lk l s = some x) : lk l.reverse s = some x := by
  have h3 : (s, x) ∈ l.reverse := by simpa using lk_mem _ _ _ h
  cases h4 : lk l.reverse s with
  | none => exact absurd h3 (lk_none _ _ h4 x)
  | some y =>
    have h5 : (s, y) ∈ l := by simpa using lk_mem _ _ _ h4
    obtain ⟨a, ha⟩ := List.getElem?_of_mem (lk_mem _ _ _ h)
    obtain ⟨b, hb⟩ := List.getElem?_of_mem h5
    have := hu a b x y s ha hb
    subst this
    rw [ha] at hb; cases hb; rfl
theorem lk_rev_none {l : List (Nat × AV)} {s : Nat} (h : lk l.reverse s = none) : lk l s = none := by
  cases h4 : lk l s with
  | none => rfl
  | some y => exact absurd (by simpa using lk_mem _ _ _ h4) (lk_none _ _ h y)
/-- A group of the form in which the walks use it. -/
theorem JA.grp {k : Nat} (m : Nat) {g : List Oper} (hkm : Nat.ble k m = true) (hml : Nat.ble m ops.size = true) (hg : (ops.toList.drop k).take (m - k) = g) (hnd : nodupB (dsts g) = true) (hbk : backB 0 ops.toList = true) (hgr : grpOk k m ops.toList = true)
    (h : ParK P E ops n (dropEnv (dsts g) env) own F D k k g [] fun steps => JA P E ops m ⟨n, steps ++ dropEnv (dsts g) env, own, F, D⟩ Q) : JA P E ops k ⟨n, env, own, F, D⟩ Q := by
  obtain ⟨all, h1, h2⟩ := h (by simp)
  obtain ⟨⟨r, hr0, hlen⟩, hst⟩ := h1.get
  simp only [List.reverse_nil, List.nil_append] at hr0
  subst hr0
  simp only [List.reverse_nil, List.length_nil, Nat.zero_add] at hst
  refine JA.par (Nat.le_of_ble_eq_true hkm) (Nat.le_of_ble_eq_true hml) hg hnd hbk hgr h1 fun fuel L a w hD hle hf ⟨A, hA⟩ => h2 fuel L a w hD hle hf ⟨A, hA.size, hA.defers, hA.keep, hA.hp, fun s x hl => hA.env s x ?_, hA.facts⟩
  have hu : ∀ (a b : Nat) (x y : AV) (s : Nat), all[a]? = some (s, x) → all[b]? = some (s, y) → a = b := by
    intro a b x y s ha hb
    have ha' : a < g.length := by have := (List.getElem?_eq_some_iff.1 ha).1; omega
    have hb' : b < g.length := by have := (List.getElem?_eq_some_iff.1 hb).1; omega
    obtain ⟨d, x', _, h3, h4, _⟩ := hst a _ (List.getElem?_eq_getElem ha')
    obtain ⟨d', y', _, h6, h7, _⟩ := hst b _ (List.getElem?_eq_getElem hb')
    rw [h3] at ha; rw [h6] at hb
    simp only [Option.some.injEq, Prod.mk.injEq] at ha hb
    obtain ⟨rfl, _⟩ := ha
    obtain ⟨rfl, _⟩ := hb
    exact nodupB_ne hnd (List.getElem?_eq_getElem ha') (List.getElem?_eq_getElem hb') h4 h7
  rw [lk_append] at hl ⊢
  rcases hl with hl | ⟨hl1, hl2⟩
  · left
    have := lk_rev (l := all.reverse) (fun a b x y s ha hb => by
      have ha1 := (List.getElem?_eq_some_iff.1 ha).1
      have hb1 := (List.getElem?_eq_some_iff.1 hb).1
      rw [List.length_reverse] at ha1 hb1
      rw [List.getElem?_reverse ha1] at ha
      rw [List.getElem?_reverse hb1] at hb
      have := hu _ _ _ _ _ ha hb
      omega) hl
    rwa [List.reverse_reverse] at this
  · exact .inr ⟨lk_rev_none hl1, hl2⟩
end
end Go.Proofs.Ytkiankpmkglhcaa.J

/- Regions that draw their order: quiet operations and allocations float until one that waits for them; the others come one by one. -/
namespace Go.Proofs.Ytkiankpmkglhcaa.J
open Go Go.RowKit
set_option linter.unusedVariables false
set_option linter.unusedSimpArgs false
/-- One that floats: its place, its slot, what it comes to (a value, or a new variable's cells); fre: of what is owned it reads nothing but O. -/
structure Flt where
  i : Nat
  d : Nat
  v : AV ⊕ List AV
  fre : Bool
  O : Option (Nat × Own) := none
def Flt.ex (L : Array Bool) (bs : Nat → Nat) (φ : Flt) : List Own := match φ.v with
  | .inl _ => []
  | .inr z => if L.getD φ.i false = true then [.box (bs φ.i) z] else []
def exF (L : Array Bool) (bs : Nat → Nat) (Φ : List Flt) : List Own := Φ.flatMap (Flt.ex L bs)
def Flt.bx (bs : Nat → Nat) (φ : Flt) : List Own := match φ.v with
  | .inl _ => []
  | .inr z => [.box (bs φ.i) z]
def bxF (bs : Nat → Nat) : List Flt → List Own
  | [] => []
  | φ :: Φ => φ.bx bs ++ bxF bs Φ
def Flt.val (bs : Nat → Nat) (φ : Flt) : AV := match φ.v with
  | .inl x => x
  | .inr _ => .c (.pointer (some ⟨bs φ.i, 0, none⟩))
def vlF (bs : Nat → Nat) : List Flt → List (Nat × AV)
  | [] => []
  | φ :: Φ => (φ.d, φ.val bs) :: vlF bs Φ
/-- Those that a mask takes, and the others. -/
def tkM : List Bool → List Flt → List Flt
  | true :: ms, φ :: Φ => φ :: tkM ms Φ
  | false :: ms, _ :: Φ => tkM ms Φ
  | _, _ => []
def lvM : List Bool → List Flt → List Flt
  | true :: ms, _ :: Φ => lvM ms Φ
  | false :: ms, φ :: Φ => φ :: lvM ms Φ
  | _, Φ => Φ
theorem tl_perm : ∀ (ms : List Bool) (Φ : List Flt), Φ.Perm (tkM ms Φ ++ lvM ms Φ)
  | [], Φ => by simp [tkM, lvM]
  | _ :: _, [] => by simp [tkM, lvM]
  | true :: ms, φ :: Φ => by simpa [tkM, lvM] using tl_perm ms Φ
  | false :: ms, φ :: Φ => by
    simp only [tkM, lvM]
    exact (List.Perm.cons φ (tl_perm ms Φ)).trans List.perm_middle.symm
def memB (i : Nat) (l : List Nat) : Bool := l.any (Nat.beq i)
theorem memB_iff {i : Nat} {l : List Nat} : memB i l = true ↔ i ∈ l := by
  simp only [memB, List.any_eq_true]
  exact ⟨fun ⟨x, h1, h2⟩ => Nat.eq_of_beq_eq_true h2 ▸ h1, fun h => ⟨i, h, by simp⟩⟩
/-- All others wait for one that is neither settled nor floats. -/
def blkB (l : List Oper) (S Φ : List Nat) (i : Nat) : Bool := (List.range l.length).all fun j => memB j S || memB j Φ || Nat.beq j i || (match l[j]? with
  | some o => o.after.toList.any fun e => Region.binds .any e && !memB e.on S && !memB e.on Φ
  | none => true)
/-- Each of these is one that o, or one of the others of them further ahead, waits for. -/
def lndB (l : List Oper) (o : Oper) : List Oper → List Nat → Bool
  | _, [] => true
  | os, i :: Φ => (depsOk o [i] || os.any fun o' => depsOk o' [i]) && lndB l o (match l[i]? with | some o' => o' :: os | none => os) Φ
section
variable {P : Program} {E : Ent} {Q : Exit → St → Prop} {n : Nat} {env : List (Nat × AV)} {own : List Own} {F : List (Value × AV)} {D : List Deferred} {ops : Array Oper}
/-- It can run. -/
def FOk (P : Program) (E : Ent) (ops : Array Oper) (n : Nat) (env : List (Nat × AV)) (own : List Own) (F : List (Value × AV)) (D : List Deferred) (Φ : List Flt) (φ : Flt) : Prop :=
  ∃ o, ops[φ.i]? = some o ∧ o.dst = some φ.d ∧ φ.d < n ∧ match φ.v with
    | .inr z => AllocOp P o φ.d z
    | .inl x => ∃ e : List (Nat × AV), (∀ s y, lk e s = some y → lk env s = some y ∨ ∃ ψ ∈ Φ, ψ.d = s ∧ ψ.v = .inl y ∧ depsOk o [ψ.i] = true) ∧
      (∀ k en, φ.O = some (k, en) → own[k]? = some en) ∧ ∀ own', (φ.fre = false → ∃ ex, own' = own ++ ex) → (∀ k en, φ.O = some (k, en) → own'[k]? = some en) → Step P E ops ⟨n, e, own', F, D⟩ o x
/-- What those that float read stands where it stood. -/
def okO (own : List Own) : List Flt → Prop
  | [] => True
  | φ :: Φ => (match φ.O with | some (k, en) => own[k]? = some en | none => True) ∧ okO own Φ
theorem okO_get {own : List Own} : ∀ {Φ : List Flt}, okO own Φ → ∀ φ ∈ Φ, ∀ k en, φ.O = some (k, en) → own[k]? = some en
  | ψ :: Φ, h, φ, hφ, k, en, he => by
    rcases List.mem_cons.1 hφ with rfl | hφ
    · have := h.1; rw [he] at this; exact this
    · exact okO_get h.2 φ hφ k en he
structure WfX (ops : Array Oper) (env : List (Nat × AV)) (S : List Nat) (Φ : List Flt) : Prop where
  nd : (Φ.map (·.i)).Nodup
  ndd : (Φ.map (·.d)).Nodup
  ns : ∀ φ ∈ Φ, φ.i ∉ S
  ne : ∀ φ ∈ Φ, lk env φ.d = none
structure Cfg (E : Ent) (ops : Array Oper) (n : Nat) (env : List (Nat × AV)) (own : List Own) (F : List (Value × AV)) (D : List Deferred) (S : List Nat) (Φ : List Flt) (L : Array Bool) (bs : Nat → Nat) (A : Foot) (a : Act) (w : World) : Prop where
  size : L.size = ops.size
  yes : ∀ i ∈ S, L.getD i false = true
  no : ∀ i, i ∉ S → (∀ φ ∈ Φ, φ.i ≠ i) → L.getD i false = false
  clo : ∀ i o, ops[i]? = some o → L.getD i false = true → ∀ e ∈ o.after, Region.binds .any e = true → L.getD e.on false = true
  sat : SatA E A ⟨n, env, own ++ exF L bs Φ, F, D⟩ a w
  val : ∀ φ ∈ Φ, L.getD φ.i false = true → Rd w A (a.tmps.getD φ.d undef) (φ.val bs)
/-- The rest of a region: S is settled, Φ floats. -/
def JX (P : Program) (E : Ent) (ops : Array Oper) (S : List Nat) (Φ : List Flt) (st : St) (Q : Exit → St → Prop) : Prop :=
  WfX ops st.env S Φ → (∀ φ ∈ Φ, FOk P E ops st.n st.env st.own st.facts st.dfs Φ φ) →
    ∀ fuel L bs A a w, cnt ops.size (fun i => !L.getD i true) ≤ fuel → Cfg E ops st.n st.env st.own st.facts st.dfs S Φ L bs A a w → wpAnyIn (fen E.rd) 0 P .any ops (lift E Q) fuel L a w
theorem exF_perm {L : Array Bool} {bs : Nat → Nat} {Φ Φ' : List Flt} (h : Φ.Perm Φ') : (exF L bs Φ).Perm (exF L bs Φ') := h.flatMap_right _
theorem exF_append (L : Array Bool) (bs : Nat → Nat) (Φ Φ' : List Flt) : exF L bs (Φ ++ Φ') = exF L bs Φ ++ exF L bs Φ' := by simp [exF]
theorem exF_done {L : Array Bool} {bs : Nat → Nat} : ∀ {Φ : List Flt}, (∀ φ ∈ Φ, L.getD φ.i false = true) → exF L bs Φ = bxF bs Φ
  | [], _ => rfl
  | φ :: Φ, h => by
    have h1 := h φ (by simp)
    have h2 := exF_done (L := L) (bs := bs) (Φ := Φ) fun ψ hψ => h ψ (by simp [hψ])
    unfold exF at h2 ⊢
    rw [List.flatMap_cons, h2, bxF]
    congr 1
    unfold Flt.ex Flt.bx
    split
    · rename_i heq; simp [heq]
    · rename_i z heq; simp [heq, h1]
theorem exF_congr {L L' : Array Bool} {bs bs' : Nat → Nat} : ∀ {Φ : List Flt}, (∀ φ ∈ Φ, L'.getD φ.i false = L.getD φ.i false ∧ bs' φ.i = bs φ.i) → exF L' bs' Φ = exF L bs Φ
  | [], _ => rfl
  | φ :: Φ, h => by
    have h1 := h φ (by simp)
    have h2 := exF_congr (L := L) (L' := L') (bs := bs) (bs' := bs') (Φ := Φ) fun ψ hψ => h ψ (by simp [hψ])
    unfold exF at h2 ⊢
    rw [List.flatMap_cons, List.flatMap_cons, h2]
    congr 1
    unfold Flt.ex
    rw [h1.1, h1.2]
theorem exF_ext {L L' : Array Bool} {bs : Nat → Nat} : ∀ {Φ : List Flt}, (∀ φ ∈ Φ, φ.ex L' bs = φ.ex L bs) → exF L' bs Φ = exF L bs Φ
  | [], _ => rfl
  | φ :: Φ, h => by
    have h2 := exF_ext (L := L) (L' := L') (bs := bs) (Φ := Φ) fun ψ hψ => h ψ (by simp [hψ])
    unfold exF at h2 ⊢
    rw [List.flatMap_cons, List.flatMap_cons, h2, h φ (by simp)]
theorem lk_vlF {bs : Nat → Nat} {env : List (Nat × AV)} : ∀ {Φ : List Flt} {s : Nat} {x : AV}, lk (vlF bs Φ ++ env) s = some x → (∃ φ ∈ Φ, φ.d = s ∧ φ.val bs = x) ∨ lk env s = some x
  | [], _, _, h => .inr h
  | φ :: Φ, s, x, h => by
    rcases lk_cons h with ⟨rfl, rfl⟩ | ⟨_, h⟩
    · exact .inl ⟨φ, by simp, rfl, rfl⟩
    · rcases lk_vlF h with ⟨ψ, h1, h2⟩ | h
      · exact .inl ⟨ψ, by simp [h1], h2⟩
      · exact .inr h
theorem lk_vlF_mem {bs : Nat → Nat} {env : List (Nat × AV)} : ∀ {Φ : List Flt} {φ : Flt}, (Φ.map (·.d)).Nodup → φ ∈ Φ → lk (vlF bs Φ ++ env) φ.d = some (φ.val bs)
  | ψ :: Φ, φ, hn, h => by
    rw [List.map_cons, List.nodup_cons] at hn
    rw [vlF, List.cons_append, lk_hd]
    rcases List.mem_cons.1 h with rfl | h
    · simp
    · have hne : Nat.beq ψ.d φ.d = false := by
        cases hb : Nat.beq ψ.d φ.d with
        | false => rfl
        | true => exact absurd (List.mem_map.2 ⟨φ, h, (Nat.eq_of_beq_eq_true hb).symm⟩) hn.1
      rw [hne]
      exact lk_vlF_mem hn.2 h
theorem lk_vlF_none {bs : Nat → Nat} {env : List (Nat × AV)} : ∀ {Φ : List Flt} {s : Nat}, (∀ φ ∈ Φ, φ.d ≠ s) → lk (vlF bs Φ ++ env) s = lk env s
  | [], _, _ => rfl
  | ψ :: Φ, s, h => by
    rw [vlF, List.cons_append, lk_hd]
    have hne : Nat.beq ψ.d s = false := by
      cases hb : Nat.beq ψ.d s with
      | false => rfl
      | true => exact absurd (Nat.eq_of_beq_eq_true hb) (h ψ (by simp))
    rw [hne]
    exact lk_vlF_none fun φ hφ => h φ (by simp [hφ])
/-- One that floats comes up: it runs, and the same holds. -/
theorem Cfg.run {S : List Nat} {Φ : List Flt} {L : Array Bool} {bs : Nat → Nat} {A : Foot} {a : Act} {w : World} (hw : WfX ops env S Φ) (hF : ∀ φ ∈ Φ, FOk P E ops n env own F D Φ φ) (hc : Cfg E ops n env own F D S Φ L bs A a w) {φ : Flt} (hφ : φ ∈ Φ) (hun : L.getD φ.i false = false) (hlt : φ.i < ops.size)
    (hdeps : ∀ o, ops[φ.i]? = some o → ∀ e ∈ o.after, Region.binds .any e = true → L.getD e.on false = true) {fuel : Nat} {Qx : Exit → Act → World → Prop}
    (hk : ∀ bs' A' a' w', Cfg E ops n env own F D S Φ (L.setIfInBounds φ.i true) bs' A' a' w' → wpAnyIn (fen E.rd) 0 P .any ops Qx fuel (L.setIfInBounds φ.i true) a' w') :
    wpOpIn (fen E.rd) 0 P ops Qx φ.i (wpAnyIn (fen E.rd) 0 P .any ops Qx fuel (L.setIfInBounds φ.i true)) a w := by
  obtain ⟨o, ho, hd, hdn, hm⟩ := hF φ hφ
  have hLs : φ.i < L.size := by rw [hc.size]; exact hlt
  have hset : ∀ j, (L.setIfInBounds φ.i true).getD j false = if j = φ.i then true else L.getD j false := fun j => getD_set _ _ _ hLs _
  have hyes : ∀ i ∈ S, (L.setIfInBounds φ.i true).getD i false = true := fun i hi => by rw [hset]; split; rfl; exact hc.yes i hi
  have hno : ∀ i, i ∉ S → (∀ ψ ∈ Φ, ψ.i ≠ i) → (L.setIfInBounds φ.i true).getD i false = false := fun i h1 h2 => by rw [hset, if_neg (fun h => h2 φ hφ h.symm)]; exact hc.no i h1 h2
  have hclo : ∀ i o, ops[i]? = some o → (L.setIfInBounds φ.i true).getD i false = true → ∀ e ∈ o.after, Region.binds .any e = true → (L.setIfInBounds φ.i true).getD e.on false = true := fun i o' ho' hL e he hb => by
    rw [hset] at hL ⊢
    split
    · rfl
    · by_cases hi : i = φ.i
      · subst hi; exact hdeps o' ho' e he hb
      · rw [if_neg hi] at hL; exact hc.clo i o' ho' hL e he hb
  have hne : ∀ ψ ∈ Φ, ψ.i ≠ φ.i → φ.d ≠ ψ.d := fun ψ hψ hi hd' => by
    have := hw.ndd
    rw [List.nodup_iff_pairwise_ne, List.pairwise_map] at this
    obtain ⟨x, hx⟩ := List.getElem?_of_mem hφ
    obtain ⟨y, hy⟩ := List.getElem?_of_mem hψ
    by_cases hxy : x = y
    · subst hxy; rw [hx] at hy; cases hy; exact hi rfl
    · rw [List.pairwise_iff_getElem] at this
      obtain ⟨h1, h2⟩ := List.getElem?_eq_some_iff.1 hx
      obtain ⟨h3, h4⟩ := List.getElem?_eq_some_iff.1 hy
      rcases Nat.lt_or_gt_of_ne hxy with h | h
      · have := this x y h1 h3 h; rw [h2, h4] at this; exact this hd'
      · have := this y x h3 h1 h; rw [h2, h4] at this; exact this hd'.symm
  have huniq : ∀ ψ ∈ Φ, ψ.i = φ.i → ψ = φ := fun ψ hψ hi => by
    have := hw.nd
    rw [List.nodup_iff_pairwise_ne, List.pairwise_map, List.pairwise_iff_getElem] at this
    obtain ⟨x, hx⟩ := List.getElem?_of_mem hφ
    obtain ⟨y, hy⟩ := List.getElem?_of_mem hψ
    obtain ⟨h1, h2⟩ := List.getElem?_eq_some_iff.1 hx
    obtain ⟨h3, h4⟩ := List.getElem?_eq_some_iff.1 hy
    by_cases hxy : x = y
    · subst hxy; rw [hx] at hy; cases hy; rfl
    · rcases Nat.lt_or_gt_of_ne hxy with h | h
      · have := this x y h1 h3 h; rw [h2, h4] at this; exact absurd hi.symm this
      · have := this y x h3 h1 h; rw [h2, h4] at this; exact absurd hi this
  have hput : ∀ v s, φ.d ≠ s → (a.put o.dst v).tmps.getD s undef = a.tmps.getD s undef := fun v s h => by rw [hd]; exact put_getD_ne h
  unfold wpOpIn
  simp only [ho]
  cases hv : φ.v with
  | inl x =>
    rw [hv] at hm
    obtain ⟨e, he, hO, hs⟩ := hm
    have hexs : ∀ bs, exF (L.setIfInBounds φ.i true) bs Φ = exF L bs Φ := fun bs => by
      refine exF_ext fun ψ hψ => ?_
      unfold Flt.ex
      by_cases hi : ψ.i = φ.i
      · rw [huniq ψ hψ hi, hv]
      · rw [hset, if_neg hi]
    have hsat : SatA E A ⟨n, e, own ++ exF L bs Φ, F, D⟩ a w := ⟨hc.sat.size, hc.sat.defers, hc.sat.keep, hc.sat.hp, fun s y hl => by
      rcases he s y hl with h | ⟨ψ, hψ, rfl, hψv, hψd⟩
      · exact hc.sat.env s y h
      · obtain ⟨e', he', hb, hon⟩ := depsOk_get hψd (List.mem_singleton.2 rfl)
        have h1 := hdeps o ho e' he' hb
        rw [hon] at h1
        have := hc.val ψ hψ h1
        unfold Flt.val at this
        rw [hψv] at this
        exact this, hc.sat.facts⟩
    have h1 := hs _ (fun _ => ⟨_, rfl⟩) (fun k en hk => by
      have := hO k en hk
      rw [List.getElem?_append_left (List.getElem?_eq_some_iff.1 this).1]; exact this) A a w hsat (wpAnyIn (fen E.rd) 0 P .any ops Qx fuel (L.setIfInBounds φ.i true)) Qx fun v w' A' hf hs' hr => hk bs A' _ w'
      ⟨by simpa using hc.size, hyes, hno, hclo, by
        rw [hexs]
        exact ⟨by have := hs'.size; simp only [Act.put, hd, Array.size_setIfInBounds]; exact this, by rw [hd]; exact hs'.defers, hs'.keep, hs'.hp, fun s y hl => by
          rw [hput v s (fun h => by rw [← h, hw.ne φ hφ] at hl; cases hl)]
          exact hf _ _ (hc.sat.env s y hl), hs'.facts⟩, fun ψ hψ hL => by
        by_cases hi : ψ.i = φ.i
        · obtain rfl := huniq ψ hψ hi
          rw [hd, put_getD_same (by have := hs'.size; simp only at this; rw [this]; exact hdn)]
          unfold Flt.val
          rw [hv]
          exact hr
        · rw [hset, if_neg hi] at hL
          rw [hput v _ (hne ψ hψ hi)]
          exact hf _ _ (hc.val ψ hψ hL)⟩
    split
    · rename_i hw'; rw [if_pos hw'] at h1; exact h1
    · rename_i hw'; rw [if_neg hw'] at h1; exact ⟨fun _ _ => trivial, h1⟩
  | inr z =>
    rw [hv] at hm
    have hga := hm.guard
    rw [if_pos (by simp [Region.wanted, hga])]
    refine hm.run (E := E) hc.sat (wpAnyIn (fen E.rd) 0 P .any ops Qx fuel (L.setIfInBounds φ.i true)) fun b w' hf hs' => ?_
    have hperm : (exF (L.setIfInBounds φ.i true) (fun j => if j = φ.i then b else bs j) Φ).Perm (.box b z :: exF L bs Φ) := by
      obtain ⟨p, q, rfl⟩ := List.append_of_mem hφ
      have hother : ∀ ψ ∈ p ++ q, (L.setIfInBounds φ.i true).getD ψ.i false = L.getD ψ.i false ∧ (if ψ.i = φ.i then b else bs ψ.i) = bs ψ.i := fun ψ hψ => by
        have hne' : ψ.i ≠ φ.i := fun hi => by
          have := hw.nd
          rw [List.map_append, List.map_cons] at this
          have h2 := (List.perm_middle.nodup_iff).1 this
          rw [List.nodup_cons] at h2
          exact h2.1 (by rw [← List.map_append, ← hi]; exact List.mem_map.2 ⟨ψ, hψ, rfl⟩)
        exact ⟨by rw [hset, if_neg hne'], by rw [if_neg hne']⟩
      have h1 := exF_congr (L := L) (L' := L.setIfInBounds φ.i true) (bs := bs) (bs' := fun j => if j = φ.i then b else bs j) (Φ := p) fun ψ hψ => hother ψ (List.mem_append_left _ hψ)
      have h2 := exF_congr (L := L) (L' := L.setIfInBounds φ.i true) (bs := bs) (bs' := fun j => if j = φ.i then b else bs j) (Φ := q) fun ψ hψ => hother ψ (List.mem_append_right _ hψ)
      have e1 : ∀ (L : Array Bool) (bs : Nat → Nat), exF L bs (p ++ φ :: q) = exF L bs p ++ (φ.ex L bs ++ exF L bs q) := fun L bs => by simp [exF]
      rw [e1, e1, h1, h2]
      have e2 : φ.ex (L.setIfInBounds φ.i true) (fun j => if j = φ.i then b else bs j) = [.box b z] := by unfold Flt.ex; rw [hv]; simp only [hset, if_true]
      have e3 : φ.ex L bs = [] := by unfold Flt.ex; rw [hv]; simp [hun]
      rw [e2, e3, List.nil_append]
      exact List.perm_middle
    have hs' : SatA E A ⟨n, env, own ++ exF (L.setIfInBounds φ.i true) (fun j => if j = φ.i then b else bs j) Φ, F, D⟩ a w' := hs'.perm (List.perm_middle.symm.trans (List.Perm.append_left _ hperm.symm))
    refine hk (fun j => if j = φ.i then b else bs j) A _ w' ⟨by simpa using hc.size, hyes, hno, hclo, ⟨by have := hs'.size; simp only [Act.put, hd, Array.size_setIfInBounds]; exact this, by rw [hd]; exact hs'.defers, hs'.keep, hs'.hp, fun s y hl => ?_, hs'.facts⟩, fun ψ hψ hL => ?_⟩
    · rw [hput _ s (fun h => by rw [← h, hw.ne φ hφ] at hl; cases hl)]
      exact hf _ _ (hc.sat.env s y hl)
    · by_cases hi : ψ.i = φ.i
      · obtain rfl := huniq ψ hψ hi
        rw [hd, put_getD_same (by have := hs'.size; simp only at this; rw [this]; exact hdn)]
        unfold Flt.val
        rw [hv]
        simp only [if_true]
        exact .c _
      · rw [hset, if_neg hi] at hL
        rw [hput _ _ (hne ψ hψ hi)]
        have := hf _ _ (hc.val ψ hψ hL)
        unfold Flt.val at this ⊢
        split
        · rename_i x heq; rw [heq] at this; exact this
        · rename_i z' heq; rw [heq] at this; simp only [if_neg hi]; exact this
theorem lndB_done {L : Array Bool} (hclo : ∀ i o, ops[i]? = some o → L.getD i false = true → ∀ e ∈ o.after, Region.binds .any e = true → L.getD e.on false = true) {o : Oper} (hdeps : ∀ e ∈ o.after, Region.binds .any e = true → L.getD e.on false = true) :
    ∀ (Φ : List Nat) (os : List Oper), (∀ o' ∈ os, ∀ e ∈ o'.after, Region.binds .any e = true → L.getD e.on false = true) → lndB ops.toList o os Φ = true → ∀ i ∈ Φ, L.getD i false = true
  | [], _, _, _ => fun _ h => by cases h
  | j :: Φ, os, hos, h => by
    unfold lndB at h
    rw [Bool.and_eq_true, Bool.or_eq_true] at h
    have hj : L.getD j false = true := by
      rcases h.1 with h1 | h1
      · obtain ⟨e, he, hb, hon⟩ := depsOk_get h1 (List.mem_singleton.2 rfl)
        rw [← hon]; exact hdeps e he hb
      · obtain ⟨o', ho', h1⟩ := List.any_eq_true.1 h1
        obtain ⟨e, he, hb, hon⟩ := depsOk_get h1 (List.mem_singleton.2 rfl)
        rw [← hon]; exact hos o' ho' e he hb
    have hrec := lndB_done hclo hdeps Φ _ (fun o' ho' => by
      split at ho'
      · rename_i o2 ho2
        rcases List.mem_cons.1 ho' with rfl | ho'
        · exact hclo j _ (by simpa using ho2) hj
        · exact hos o' ho'
      · exact hos o' ho') h.2
    intro i hi
    rcases List.mem_cons.1 hi with rfl | hi
    · exact hj
    · exact hrec i hi
theorem cnt_run {L : Array Bool} {i fuel : Nat} (hL : L.size = ops.size) (hi : i < ops.size) (hun : L.getD i true = false) (hc : cnt ops.size (fun i => !L.getD i true) ≤ fuel + 1) : cnt ops.size (fun j => !(L.setIfInBounds i true).getD j true) ≤ fuel := by
  have := cnt_set (fun i => !L.getD i true) (fun j => !(L.setIfInBounds i true).getD j true) i (fun j hj => by rw [getD_set _ _ _ (by omega), if_neg hj]) (by simp [hun]) (by rw [getD_set _ _ _ (by omega), if_pos rfl]; rfl) ops.size
  rw [if_pos hi] at this
  omega
theorem wpListIn_monoN {o : Oper} {K K' : St → Prop} {a : Act} {w : World} (h : wpListIn (fen E.rd) 0 P ops (lift E (thenQ K Q)) [o] a w) (hk : ∀ a w, lift E (thenQ K Q) .normal a w → lift E (thenQ K' Q) .normal a w) : wpListIn (fen E.rd) 0 P ops (lift E (thenQ K' Q)) [o] a w := by
  have hx : ∀ e, e ≠ .normal → ∀ a w, lift E (thenQ K Q) e a w → lift E (thenQ K' Q) e a w := fun e he a w ⟨s, h1, h2⟩ => ⟨s, by cases e <;> first | exact h1 | exact absurd rfl he, h2⟩
  unfold wpListIn at h ⊢
  split
  · rename_i hw
    rw [if_pos hw] at h
    exact Oper.wpIn_monoQ (fun ch a w h => hx _ (by intro h; cases h) a w h) (fun h => by first | exact fun a w => hx _ (by intro h; cases h) a w (h a w) | (obtain ⟨a, w, h⟩ := h; exact ⟨a, w, hx _ (by intro h; cases h) a w h⟩)) (Oper.wpIn_mono (fun a w h => hk a w h) h)
  · rename_i hw
    rw [if_neg hw] at h
    exact ⟨h.1, hk _ _ h.2⟩
/-- The next that is no float. -/
theorem JX.step {S : List Nat} {Φ : List Flt} (i : Nat) (ms : List Bool) {o : Oper} (ho : ops[i]? = some o) (hbk : backB 0 ops.toList = true) (hblk : blkB ops.toList S (Φ.map (·.i)) i = true) (hS : memB i S = false) (hΦ : memB i (Φ.map (·.i)) = false)
    (hlnd : lndB ops.toList o [] ((tkM ms Φ).map (·.i)) = true) (hfre : (lvM ms Φ).all (·.fre) = true)
    (h : ∀ bs pe ex, JL P E ops [o] ⟨n, vlF bs (tkM ms Φ) ++ (env ++ pe), own ++ (bxF bs (tkM ms Φ) ++ ex), F, D⟩ (thenQ (fun s => ∃ ev env' own', s.n = n ∧ s.env = env' ++ pe ∧ s.facts = F ∧ s.dfs = D ∧ env' = ev ++ (vlF bs (tkM ms Φ) ++ env) ∧ ev.all (fun p => o.dst == some p.1) = true ∧ Reown s.own (own' ++ ex) ∧
      (match o.dst with | some d => (Φ.all fun φ => !Nat.beq φ.d d) = true ∧ lk env d = none | none => True) ∧ okO own' (lvM ms Φ) ∧ JX P E ops (i :: ((tkM ms Φ).map (·.i) ++ S)) (lvM ms Φ) ⟨n, env', own', F, D⟩ Q) Q)) : JX P E ops S Φ ⟨n, env, own, F, D⟩ Q := fun hw hF => by
  have hlt : i < ops.size := (Array.getElem?_eq_some_iff.1 ho).1
  have hp := tl_perm ms Φ
  intro fuel
  induction fuel with
  | zero =>
    intro L bs A a w hc hcf
    exfalso
    have hi : L.getD i true = false := by
      rw [getD_same (by rw [hcf.size]; exact hlt)]
      exact hcf.no i (fun h => by rw [memB_iff.2 h] at hS; cases hS) fun φ hφ he => by rw [memB_iff.2 (List.mem_map.2 ⟨φ, hφ, he⟩)] at hΦ; cases hΦ
    have := List.countP_eq_zero.1 (Nat.le_zero.1 hc) i (by simpa using hlt)
    simp [hi] at this
  | succ fuel ih =>
    intro L bs A a w hc hcf
    have hundone : L.getD i false = false := hcf.no i (fun h => by rw [memB_iff.2 h] at hS; cases hS) fun φ hφ he => by rw [memB_iff.2 (List.mem_map.2 ⟨φ, hφ, he⟩)] at hΦ; cases hΦ
    refine ⟨fun hr => ?_, fun j hj => ?_⟩
    · exfalso
      have key : ∀ j, j < ops.size → L.getD j false = true := by
        intro j
        induction j using Nat.strongRecOn with
        | _ j ihj =>
          intro hjl
          cases hL : L.getD j false with
          | true => rfl
          | false =>
            exfalso
            obtain ⟨oj, hoj⟩ : ∃ oj, ops[j]? = some oj := ⟨_, Array.getElem?_eq_getElem hjl⟩
            have : j ∈ Region.ready .any ops L := ready_mem hcf.size hoj (by rw [getD_same (by rw [hcf.size]; exact hjl)]; exact hL) fun e he hb => by
              have hon := backB_lt hbk (i := j) (o := oj) (by simpa using hoj) e he hb
              exact ihj e.on (by omega) (by omega)
            rw [hr] at this
            cases this
      rw [key i hlt] at hundone; cases hundone
    · obtain ⟨hjl, oj, hoj, hunj, hdeps⟩ := mem_ready hj
      have hunj' : L.getD j false = false := by rw [← getD_same (by rw [hcf.size]; exact hjl)]; exact hunj
      by_cases hjΦ : ∃ φ ∈ Φ, φ.i = j
      · obtain ⟨φ, hφ, rfl⟩ := hjΦ
        exact hcf.run hw hF hφ hunj' hjl (fun o' ho' => by rw [hoj] at ho'; cases ho'; exact hdeps) fun bs' A' a' w' hcf' => ih _ bs' A' a' w' (cnt_run hcf.size hjl hunj hc) hcf'
      · have hji : j = i := by
          by_cases he : j = i
          · exact he
          · exfalso
            have h1 := List.all_eq_true.1 hblk j (by simpa using hjl)
            have h2 : memB j S = false := by
              cases hb : memB j S with
              | false => rfl
              | true => rw [hcf.yes j (memB_iff.1 hb)] at hunj'; cases hunj'
            have h3 : memB j (Φ.map (·.i)) = false := by
              cases hb : memB j (Φ.map (·.i)) with
              | false => rfl
              | true =>
                obtain ⟨φ, hφ, hφi⟩ := List.mem_map.1 (memB_iff.1 hb)
                exact absurd ⟨φ, hφ, hφi⟩ hjΦ
            have h4 : Nat.beq j i = false := by
              cases hb : Nat.beq j i with
              | false => rfl
              | true => exact absurd (Nat.eq_of_beq_eq_true hb) he
            have h5 : ops.toList[j]? = some oj := by simpa using hoj
            rw [h2, h3, h4, h5] at h1
            simp only [Bool.false_or] at h1
            obtain ⟨e, he, hb⟩ := List.any_eq_true.1 h1
            simp only [Bool.and_eq_true, Bool.not_eq_true'] at hb
            have h6 := hdeps e (by simpa using he) hb.1.1
            rw [hcf.no e.on (fun h => by rw [memB_iff.2 h] at hb; simp at hb) fun φ hφ hφi => by
              have := hb.2
              rw [memB_iff.2 (List.mem_map.2 ⟨φ, hφ, hφi⟩)] at this; cases this] at h6
            cases h6
        subst hji
        rw [ho] at hoj; cases hoj
        -- what it waits for has been done
        have hland : ∀ φ ∈ tkM ms Φ, L.getD φ.i false = true := fun φ hφ => lndB_done hcf.clo hdeps _ _ (fun o' h => by cases h) hlnd φ.i (List.mem_map.2 ⟨φ, hφ, rfl⟩)
        have hmem : ∀ φ, φ ∈ Φ ↔ φ ∈ tkM ms Φ ∨ φ ∈ lvM ms Φ := fun φ => by rw [hp.mem_iff, List.mem_append]
        obtain ⟨pe, hpe⟩ : ∃ pe, pe = vlF bs ((lvM ms Φ).filter fun φ => L.getD φ.i false) := ⟨_, rfl⟩
        have hndd : ((tkM ms Φ ++ lvM ms Φ).map (·.d)).Nodup := (hp.map _).nodup_iff.1 hw.ndd
        rw [List.map_append, List.nodup_append] at hndd
        have hnd : ((tkM ms Φ ++ lvM ms Φ).map (·.i)).Nodup := (hp.map _).nodup_iff.1 hw.nd
        rw [List.map_append, List.nodup_append] at hnd
        have hsat0 : SatA E A ⟨n, vlF bs (tkM ms Φ) ++ (env ++ pe), own ++ (bxF bs (tkM ms Φ) ++ exF L bs (lvM ms Φ)), F, D⟩ a w := by
          have h1 := hcf.sat.perm (List.Perm.append_left own ((exF_perm (L := L) (bs := bs) hp).trans (by rw [exF_append, exF_done hland])))
          refine ⟨h1.size, h1.defers, h1.keep, h1.hp, fun s x hl => ?_, h1.facts⟩
          rcases lk_vlF hl with ⟨φ, hφ, rfl, rfl⟩ | hl
          · exact hcf.val φ ((hmem φ).2 (.inl hφ)) (hland φ hφ)
          · rw [lk_append] at hl
            rcases hl with hl | ⟨_, hl⟩
            · exact hcf.sat.env s x hl
            · rw [hpe] at hl
              rcases lk_vlF (env := []) (by rw [List.append_nil]; exact hl) with ⟨φ, hφ, rfl, rfl⟩ | hl
              · rw [List.mem_filter] at hφ
                exact hcf.val φ ((hmem φ).2 (.inr hφ.1)) hφ.2
              · simp [lk] at hl
        have hl := h bs pe (exF L bs (lvM ms Φ)) a w ⟨A, hsat0⟩
        have hK : ∀ a' w', wpListIn (fen E.rd) 0 P ops (lift E (thenQ (fun s => ∃ ev env' own', s.n = n ∧ s.env = env' ++ pe ∧ s.facts = F ∧ s.dfs = D ∧ env' = ev ++ (vlF bs (tkM ms Φ) ++ env) ∧ ev.all (fun p => o.dst == some p.1) = true ∧ Reown s.own (own' ++ exF L bs (lvM ms Φ)) ∧
            (match o.dst with | some d => (Φ.all fun φ => !Nat.beq φ.d d) = true ∧ lk env d = none | none => True) ∧ okO own' (lvM ms Φ) ∧ JX P E ops (j :: ((tkM ms Φ).map (·.i) ++ S)) (lvM ms Φ) ⟨n, env', own', F, D⟩ Q) Q)) [] a' w' → wpAnyIn (fen E.rd) 0 P .any ops (lift E Q) fuel (L.setIfInBounds j true) a' w' := by
          rintro a' w' ⟨⟨n', env2, own2, F', D'⟩, ⟨ev, env', own', rfl, rfl, rfl, rfl, rfl, hev, hre, hdd, hoO, hX⟩, A', hsA⟩
          have hevd : ∀ s x, lk ev s = some x → o.dst = some s := fun s x hl' => by
            have := List.all_eq_true.1 hev _ (lk_mem _ _ _ hl')
            simpa using this
          have hlts : j < L.size := by rw [hcf.size]; exact hlt
          have hset : ∀ z, (L.setIfInBounds j true).getD z false = if z = j then true else L.getD z false := fun z => getD_set _ _ _ hlts _
          have hnot : ∀ φ ∈ Φ, φ.i ≠ j := fun φ hφ he => by rw [memB_iff.2 (List.mem_map.2 ⟨φ, hφ, he⟩)] at hΦ; cases hΦ
          have hevΦ : ∀ φ ∈ Φ, lk ev φ.d = none := fun φ hφ => by
            cases hle : lk ev φ.d with
            | none => rfl
            | some x =>
              have hd' := hevd _ _ hle
              rw [hd'] at hdd
              have := List.all_eq_true.1 hdd.1 φ hφ
              simp at this
          have hold : ∀ s y, lk env s = some y → lk (ev ++ (vlF bs (tkM ms Φ) ++ env)) s = some y := fun s y hl' => by
            rw [lk_append]
            have h1 : lk ev s = none := by
              cases hle : lk ev s with
              | none => rfl
              | some x =>
                have hd' := hevd _ _ hle
                rw [hd'] at hdd
                simp only at hdd
                rw [hdd.2] at hl'; cases hl'
            refine .inr ⟨h1, ?_⟩
            rw [lk_vlF_none fun φ hφ he => ?_]
            · exact hl'
            · rw [← he, hw.ne φ ((hmem φ).2 (.inl hφ))] at hl'; cases hl'
          have hexs : exF (L.setIfInBounds j true) bs (lvM ms Φ) = exF L bs (lvM ms Φ) := exF_congr fun φ hφ => ⟨by rw [hset, if_neg (hnot φ ((hmem φ).2 (.inr hφ)))], rfl⟩
          refine hX ⟨hnd.2.1, hndd.2.1, fun φ hφ hm => ?_, fun φ hφ => ?_⟩ (fun φ hφ => ?_) fuel _ bs A' a' w' (cnt_run hcf.size hlt hunj hc) ⟨by simpa using hcf.size, fun z hz => ?_, fun z hz1 hz2 => ?_, fun z oz hoz hLz e he hb => ?_, ?_, fun φ hφ hLφ => ?_⟩
          · rcases List.mem_cons.1 hm with hm | hm
            · exact hnot φ ((hmem φ).2 (.inr hφ)) hm
            · rcases List.mem_append.1 hm with hm | hm
              · exact hnd.2.2 _ hm _ (List.mem_map.2 ⟨φ, hφ, rfl⟩) rfl
              · exact hw.ns φ ((hmem φ).2 (.inr hφ)) hm
          · have hφΦ := (hmem φ).2 (.inr hφ)
            show lk (ev ++ (vlF bs (tkM ms Φ) ++ env)) φ.d = none
            cases hle : lk (ev ++ (vlF bs (tkM ms Φ) ++ env)) φ.d with
            | none => rfl
            | some y =>
              rw [lk_append] at hle
              rcases hle with hle | ⟨_, hle⟩
              · rw [hevΦ φ hφΦ] at hle; cases hle
              · rw [lk_vlF_none fun ψ hψ he => hndd.2.2 _ (List.mem_map.2 ⟨ψ, hψ, rfl⟩) _ (List.mem_map.2 ⟨φ, hφ, rfl⟩) he] at hle
                rw [hw.ne φ hφΦ] at hle; cases hle
          · obtain ⟨o', ho', hd', hdn', hm'⟩ := hF φ ((hmem φ).2 (.inr hφ))
            refine ⟨o', ho', hd', hdn', ?_⟩
            split at hm'
            · exact hm'
            · obtain ⟨e, he, _, hs⟩ := hm'
              refine ⟨e, fun s y hl' => ?_, okO_get hoO φ hφ, fun own2 _ hO2 => hs own2 (fun hf => ?_) hO2⟩
              · rcases he s y hl' with h1 | ⟨ψ, hψ, rfl, hψv, hψd⟩
                · exact .inl (hold s y h1)
                · rcases (hmem ψ).1 hψ with hψ' | hψ'
                  · left
                    rw [lk_append]
                    refine .inr ⟨hevΦ ψ hψ, ?_⟩
                    rw [lk_vlF_mem hndd.1 hψ']
                    unfold Flt.val
                    rw [hψv]
                  · exact .inr ⟨ψ, hψ', rfl, hψv, hψd⟩
              · have := List.all_eq_true.1 hfre φ hφ
                rw [hf] at this; cases this
          · rw [hset]
            split
            · rfl
            · rename_i hne
              rcases List.mem_cons.1 hz with hz | hz
              · exact absurd hz hne
              · rcases List.mem_append.1 hz with hz | hz
                · obtain ⟨φ, hφ, rfl⟩ := List.mem_map.1 hz
                  exact hland φ hφ
                · exact hcf.yes z hz
          · rw [hset, if_neg (fun h => hz1 (by simp [h]))]
            refine hcf.no z (fun h => hz1 (by simp [h])) fun φ hφ he => ?_
            rcases (hmem φ).1 hφ with h' | h'
            · exact hz1 (by rw [← he]; exact List.mem_cons_of_mem _ (List.mem_append_left _ (List.mem_map.2 ⟨φ, h', rfl⟩)))
            · exact hz2 φ h' he
          · rw [hset] at hLz ⊢
            split
            · rfl
            · by_cases hzj : z = j
              · subst hzj; rw [ho] at hoz; cases hoz; exact hdeps e he hb
              · rw [if_neg hzj] at hLz; exact hcf.clo z oz hoz hLz e he hb
          · rw [hexs]
            exact ⟨hsA.size, hsA.defers, hsA.keep, hsA.hp.reown hre, fun s y hl' => hsA.env s y (by rw [lk_append]; exact .inl hl'), hsA.facts⟩
          · rw [hset, if_neg (hnot φ ((hmem φ).2 (.inr hφ)))] at hLφ
            refine hsA.env φ.d (φ.val bs) ?_
            have hφΦ := (hmem φ).2 (.inr hφ)
            rw [lk_append]
            refine .inr ⟨?_, ?_⟩
            · show lk (ev ++ (vlF bs (tkM ms Φ) ++ env)) φ.d = none
              cases hle : lk (ev ++ (vlF bs (tkM ms Φ) ++ env)) φ.d with
              | none => rfl
              | some y =>
                rw [lk_append] at hle
                rcases hle with hle | ⟨_, hle⟩
                · rw [hevΦ φ hφΦ] at hle; cases hle
                · rw [lk_vlF_none fun ψ hψ he => hndd.2.2 _ (List.mem_map.2 ⟨ψ, hψ, rfl⟩) _ (List.mem_map.2 ⟨φ, hφ, rfl⟩) he] at hle
                  rw [hw.ne φ hφΦ] at hle; cases hle
            · rw [hpe]
              have := lk_vlF_mem (bs := bs) (env := []) (Φ := (lvM ms Φ).filter fun φ => L.getD φ.i false) (φ := φ) ((List.filter_sublist.map _).nodup hndd.2.1) (List.mem_filter.2 ⟨hφ, hLφ⟩)
              rwa [List.append_nil] at this
        unfold wpOpIn
        simp only [ho]
        unfold wpListIn at hl
        split
        · rename_i hw'
          rw [if_pos hw'] at hl
          exact Oper.wpIn_monoQ (fun ch a w h => lift_q (by intro h; cases h) h) (fun h => by first | exact fun a w => lift_q (by intro h; cases h) (h a w) | exact h) (Oper.wpIn_mono hK hl)
        · rename_i hw'
          rw [if_neg hw'] at hl
          exact ⟨hl.1, hK _ _ hl.2⟩
theorem FOk.more {Φ : List Flt} {φ ψ : Flt} (h : FOk P E ops n env own F D Φ φ) : FOk P E ops n env own F D (ψ :: Φ) φ := by
  obtain ⟨o, h1, h2, h3, h4⟩ := h
  refine ⟨o, h1, h2, h3, ?_⟩
  split at h4
  · exact h4
  · obtain ⟨e, he, hO, hs⟩ := h4
    refine ⟨e, fun s y hl => (he s y hl).imp id fun ⟨χ, k1, k2⟩ => ⟨χ, by simp [k1], k2⟩, hO, hs⟩
theorem JX.add {S : List Nat} {Φ : List Flt} (φ : Flt) (hS : memB φ.i S = false) (hΦ : memB φ.i (Φ.map (·.i)) = false) (hdd : (Φ.all fun ψ => !Nat.beq ψ.d φ.d) = true) (hne : lk env φ.d = none) (hok : FOk P E ops n env own F D (φ :: Φ) φ) (h : JX P E ops S (φ :: Φ) ⟨n, env, own, F, D⟩ Q) : JX P E ops S Φ ⟨n, env, own, F, D⟩ Q := fun hw hF fuel L bs A a w hc hcf => by
  have hun : L.getD φ.i false = false := hcf.no _ (fun h => by rw [memB_iff.2 h] at hS; cases hS) fun ψ hψ he => by rw [memB_iff.2 (List.mem_map.2 ⟨ψ, hψ, he⟩)] at hΦ; cases hΦ
  refine h ⟨?_, ?_, ?_, ?_⟩ (fun ψ hψ => ?_) fuel L bs A a w hc ⟨hcf.size, hcf.yes, fun i h1 h2 => hcf.no i h1 fun ψ hψ => h2 ψ (by simp [hψ]), hcf.clo, ?_, fun ψ hψ hL => ?_⟩
  · rw [List.map_cons, List.nodup_cons]
    exact ⟨fun h => (by rw [memB_iff.2 h] at hΦ; cases hΦ), hw.nd⟩
  · rw [List.map_cons, List.nodup_cons]
    refine ⟨fun h => ?_, hw.ndd⟩
    obtain ⟨ψ, hψ, he⟩ := List.mem_map.1 h
    have := List.all_eq_true.1 hdd ψ hψ
    rw [he] at this
    simp at this
  · intro ψ hψ
    rcases List.mem_cons.1 hψ with rfl | hψ
    · exact fun h => by rw [memB_iff.2 h] at hS; cases hS
    · exact hw.ns ψ hψ
  · intro ψ hψ
    rcases List.mem_cons.1 hψ with rfl | hψ
    · exact hne
    · exact hw.ne ψ hψ
  · rcases List.mem_cons.1 hψ with rfl | hψ
    · exact hok
    · exact (hF ψ hψ).more
  · have : exF L bs (φ :: Φ) = exF L bs Φ := by
      have : φ.ex L bs = [] := by unfold Flt.ex; split <;> simp [hun]
      simp [exF, this]
    rw [this]; exact hcf.sat
  · rcases List.mem_cons.1 hψ with rfl | hψ
    · rw [hun] at hL; cases hL
    · exact hcf.val ψ hψ hL
def selF (sl : List Nat) : List Flt → List (Nat × AV)
  | [] => []
  | ⟨_, d, .inl x, _, _⟩ :: Φ => match memB d sl with | true => (d, x) :: selF sl Φ | false => selF sl Φ
  | ⟨_, _, .inr _, _, _⟩ :: Φ => selF sl Φ
def chkF (o : Oper) (sl : List Nat) : List Flt → Bool
  | [] => true
  | ⟨i, d, .inl _, _, _⟩ :: Φ => (!memB d sl || depsOk o [i]) && chkF o sl Φ
  | ⟨_, _, .inr _, _, _⟩ :: Φ => chkF o sl Φ
theorem selF_get {o : Oper} {sl : List Nat} {env : List (Nat × AV)} : ∀ {Φ : List Flt}, chkF o sl Φ = true → ∀ s y, lk (selF sl Φ ++ env) s = some y → lk env s = some y ∨ ∃ ψ ∈ Φ, ψ.d = s ∧ ψ.v = .inl y ∧ depsOk o [ψ.i] = true
  | [], _, s, y, h => .inl (by simpa [selF] using h)
  | ⟨i, d, .inl x, fr, O⟩ :: Φ, hc, s, y, h => by
    unfold chkF at hc
    rw [Bool.and_eq_true, Bool.or_eq_true] at hc
    have hrec : lk (selF sl Φ ++ env) s = some y → lk env s = some y ∨ ∃ ψ ∈ (⟨i, d, .inl x, fr, O⟩ :: Φ : List Flt), ψ.d = s ∧ ψ.v = .inl y ∧ depsOk o [ψ.i] = true := fun h => (selF_get hc.2 s y h).imp id fun ⟨ψ, h1, h2⟩ => ⟨ψ, by simp [h1], h2⟩
    unfold selF at h
    split at h
    · rename_i hb
      rcases lk_cons h with ⟨rfl, rfl⟩ | ⟨_, h⟩
      · refine .inr ⟨_, List.mem_cons_self, rfl, rfl, ?_⟩
        have := hc.1
        rw [hb] at this
        simpa using this
      · exact hrec h
    · exact hrec h
  | ⟨i, d, .inr z, fr, O⟩ :: Φ, hc, s, y, h => (selF_get (sl := sl) (Φ := Φ) hc s y h).imp id fun ⟨ψ, h1, h2⟩ => ⟨ψ, by simp [h1], h2⟩
/-- A quiet one begins to float. -/
theorem JX.q {S : List Nat} {Φ : List Flt} {o : Oper} {d : Nat} {x : AV} (i : Nat) (sl : List Nat) (ho : ops[i]? = some o) (hd : o.dst = some d) (hn : Nat.blt d n = true) (hS : memB i S = false) (hΦ : memB i (Φ.map (·.i)) = false) (hdd : (Φ.all fun ψ => !Nat.beq ψ.d d) = true) (hne : lk env d = none) (hc : chkF o sl Φ = true)
    (hs : ∀ ex, Step P E ops ⟨n, selF sl Φ ++ env, own ++ ex, F, D⟩ o x) (h : JX P E ops S (⟨i, d, .inl x, false, none⟩ :: Φ) ⟨n, env, own, F, D⟩ Q) : JX P E ops S Φ ⟨n, env, own, F, D⟩ Q :=
  .add ⟨i, d, .inl x, false, none⟩ hS hΦ hdd hne ⟨o, ho, hd, blt_lt hn, selF sl Φ ++ env, fun s y hl => (selF_get hc s y hl).imp id fun ⟨ψ, h1, h2⟩ => ⟨ψ, by simp [h1], h2⟩, (fun k en h => by cases h), fun own' h _ => by obtain ⟨ex, rfl⟩ := h rfl; exact hs ex⟩ h
/-- One that reads nothing that is owned. -/
theorem JX.f {S : List Nat} {Φ : List Flt} {o : Oper} {d : Nat} {x : AV} (i : Nat) (sl : List Nat) (ho : ops[i]? = some o) (hd : o.dst = some d) (hn : Nat.blt d n = true) (hS : memB i S = false) (hΦ : memB i (Φ.map (·.i)) = false) (hdd : (Φ.all fun ψ => !Nat.beq ψ.d d) = true) (hne : lk env d = none) (hc : chkF o sl Φ = true)
    (hs : ∀ own', Step P E ops ⟨n, selF sl Φ ++ env, own', F, D⟩ o x) (h : JX P E ops S (⟨i, d, .inl x, true, none⟩ :: Φ) ⟨n, env, own, F, D⟩ Q) : JX P E ops S Φ ⟨n, env, own, F, D⟩ Q :=
  .add ⟨i, d, .inl x, true, none⟩ hS hΦ hdd hne ⟨o, ho, hd, blt_lt hn, selF sl Φ ++ env, fun s y hl => (selF_get hc s y hl).imp id fun ⟨ψ, h1, h2⟩ => ⟨ψ, by simp [h1], h2⟩, (fun k en h => by cases h), fun own' _ _ => hs own'⟩ h
/-- One that reads one entry of what is owned. -/
theorem JX.o {S : List Nat} {Φ : List Flt} {o : Oper} {d : Nat} {x : AV} {en : Own} (i : Nat) (k : Nat) (sl : List Nat) (ho : ops[i]? = some o) (hd : o.dst = some d) (hn : Nat.blt d n = true) (hS : memB i S = false) (hΦ : memB i (Φ.map (·.i)) = false) (hdd : (Φ.all fun ψ => !Nat.beq ψ.d d) = true) (hne : lk env d = none) (hc : chkF o sl Φ = true) (hk : own[k]? = some en)
    (hs : ∀ own', own'[k]? = some en → Step P E ops ⟨n, selF sl Φ ++ env, own', F, D⟩ o x) (h : JX P E ops S (⟨i, d, .inl x, true, some (k, en)⟩ :: Φ) ⟨n, env, own, F, D⟩ Q) : JX P E ops S Φ ⟨n, env, own, F, D⟩ Q :=
  .add ⟨i, d, .inl x, true, some (k, en)⟩ hS hΦ hdd hne ⟨o, ho, hd, blt_lt hn, selF sl Φ ++ env, fun s y hl => (selF_get hc s y hl).imp id fun ⟨ψ, h1, h2⟩ => ⟨ψ, by simp [h1], h2⟩, (fun k' en' h => by cases h; exact hk), fun own' _ h => hs own' (h k en rfl)⟩ h
/-- A new variable. -/
theorem JX.a {S : List Nat} {Φ : List Flt} {o : Oper} {d : Nat} {z : List AV} (i : Nat) (ho : ops[i]? = some o) (ha : AllocOp P o d z) (hn : Nat.blt d n = true) (hS : memB i S = false) (hΦ : memB i (Φ.map (·.i)) = false) (hdd : (Φ.all fun ψ => !Nat.beq ψ.d d) = true) (hne : lk env d = none)
    (h : JX P E ops S (⟨i, d, .inr z, true, none⟩ :: Φ) ⟨n, env, own, F, D⟩ Q) : JX P E ops S Φ ⟨n, env, own, F, D⟩ Q :=
  .add ⟨i, d, .inr z, true, none⟩ hS hΦ hdd hne ⟨o, ho, ha.dst, blt_lt hn, ha⟩ h
/-- All are settled, or float: they come up, and the region ends. -/
theorem JX.fin {S : List Nat} {Φ : List Flt} (hbk : backB 0 ops.toList = true) (hall : ((List.range ops.size).all fun i => memB i S || memB i (Φ.map (·.i))) = true) (h : ∀ bs, Q .normal ⟨n, vlF bs Φ ++ env, own ++ bxF bs Φ, F, D⟩) : JX P E ops S Φ ⟨n, env, own, F, D⟩ Q := fun hw hF fuel => by
  have hend : ∀ L bs A a w, Cfg E ops n env own F D S Φ L bs A a w → (∀ j, j < ops.size → L.getD j false = true) → lift E Q .normal a w := fun L bs A a w hcf hd => by
    have hdn : ∀ φ ∈ Φ, L.getD φ.i false = true := fun φ hφ => by
      obtain ⟨o, ho, _⟩ := hF φ hφ
      exact hd _ (Array.getElem?_eq_some_iff.1 ho).1
    refine ⟨_, h bs, A, hcf.sat.size, hcf.sat.defers, hcf.sat.keep, by rw [← exF_done hdn]; exact hcf.sat.hp, fun s x hl => ?_, hcf.sat.facts⟩
    rcases lk_vlF hl with ⟨φ, hφ, rfl, rfl⟩ | hl
    · exact hcf.val φ hφ (hdn φ hφ)
    · exact hcf.sat.env s x hl
  have hdone : ∀ L bs A a w, Cfg E ops n env own F D S Φ L bs A a w → Region.ready .any ops L = [] → ∀ j, j < ops.size → L.getD j false = true := by
    intro L bs A a w hcf hr j
    induction j using Nat.strongRecOn with
    | _ j ihj =>
      intro hjl
      cases hL : L.getD j false with
      | true => rfl
      | false =>
        exfalso
        obtain ⟨oj, hoj⟩ : ∃ oj, ops[j]? = some oj := ⟨_, Array.getElem?_eq_getElem hjl⟩
        have : j ∈ Region.ready .any ops L := ready_mem hcf.size hoj (by rw [getD_same (by rw [hcf.size]; exact hjl)]; exact hL) fun e he hb => by
          have hon := backB_lt hbk (i := j) (o := oj) (by simpa using hoj) e he hb
          exact ihj e.on (by omega) (by omega)
        rw [hr] at this
        cases this
  induction fuel with
  | zero =>
    intro L bs A a w hc hcf
    have hnil : Region.ready .any ops L = [] := by
      rw [List.eq_nil_iff_forall_not_mem]
      intro i hi
      obtain ⟨hlt, o, ho, hun, _⟩ := mem_ready hi
      have := List.countP_eq_zero.1 (Nat.le_zero.1 hc) i (by simpa using hlt)
      simp [hun] at this
    exact ⟨hnil, hend L bs A a w hcf (hdone L bs A a w hcf hnil)⟩
  | succ fuel ih =>
    intro L bs A a w hc hcf
    refine ⟨fun hr => hend L bs A a w hcf (hdone L bs A a w hcf hr), fun j hj => ?_⟩
    obtain ⟨hjl, oj, hoj, hunj, hdeps⟩ := mem_ready hj
    have hunj' : L.getD j false = false := by rw [← getD_same (by rw [hcf.size]; exact hjl)]; exact hunj
    have h1 := List.all_eq_true.1 hall j (by simpa using hjl)
    rw [Bool.or_eq_true] at h1
    rcases h1 with h1 | h1
    · rw [hcf.yes j (memB_iff.1 h1)] at hunj'; cases hunj'
    · obtain ⟨φ, hφ, rfl⟩ := List.mem_map.1 (memB_iff.1 h1)
      exact hcf.run hw hF hφ hunj' hjl (fun o' ho' => by rw [hoj] at ho'; cases ho'; exact hdeps) fun bs' A' a' w' hcf' => ih _ bs' A' a' w' (cnt_run hcf.size hjl hunj hc) hcf'
/-- The same, in the form in which the walks use it. -/
theorem JX.one {S : List Nat} {Φ : List Flt} (i : Nat) (ms : List Bool) {o : Oper} (ho : ops[i]? = some o) (hbk : backB 0 ops.toList = true) (hblk : blkB ops.toList S (Φ.map (·.i)) i = true) (hS : memB i S = false) (hΦ : memB i (Φ.map (·.i)) = false)
    (hlnd : lndB ops.toList o [] ((tkM ms Φ).map (·.i)) = true) (hfre : (lvM ms Φ).all (·.fre) = true)
    (h : ∀ bs pe ex, JL P E ops [o] ⟨n, vlF bs (tkM ms Φ) ++ (env ++ pe), own ++ (bxF bs (tkM ms Φ) ++ ex), F, D⟩ (thenQ (fun s => ∃ ev own', s.n = n ∧ s.env = ev ++ (vlF bs (tkM ms Φ) ++ (env ++ pe)) ∧ s.facts = F ∧ s.dfs = D ∧ ev.all (fun p => o.dst == some p.1) = true ∧ Reown s.own (own' ++ ex) ∧
      (match o.dst with | some d => (Φ.all fun φ => !Nat.beq φ.d d) = true ∧ lk env d = none | none => True) ∧ okO own' (lvM ms Φ) ∧ JX P E ops (i :: ((tkM ms Φ).map (·.i) ++ S)) (lvM ms Φ) ⟨n, ev ++ (vlF bs (tkM ms Φ) ++ env), own', F, D⟩ Q) Q)) : JX P E ops S Φ ⟨n, env, own, F, D⟩ Q :=
  .step i ms ho hbk hblk hS hΦ hlnd hfre fun bs pe ex a w hs => by
    have := h bs pe ex a w hs
    refine wpListIn_monoN this fun a' w' ⟨s, ⟨ev, own', h1, h2, h3, h4, h5, h6, h7, h8, h9⟩, hs'⟩ => ⟨s, ⟨ev, _, own', h1, by rw [h2]; simp, h3, h4, rfl, h5, h6, h7, h8, h9⟩, hs'⟩
theorem JX.conv {S S' : List Nat} {Φ Φ' : List Flt} {st st' : St} (hS : S = S') (hΦ : Φ = Φ') (hst : st = st') (h : JX P E ops S' Φ' st' Q) : JX P E ops S Φ st Q := by subst hS hΦ hst; exact h
theorem QX.conv {Q : Exit → St → Prop} {st st' : St} (h : st = st') (k : Q .normal st') : Q .normal st := h ▸ k
end
end Go.Proofs.Ytkiankpmkglhcaa.J

/- Walks: the page sets a part of a value by a path. -/
namespace Go.Proofs.Ytkiankpmkglhcaa.J
open Go Go.RowKit
set_option linter.unusedVariables false
set_option linter.unusedSimpArgs false
set_option maxRecDepth 10000
set_option maxHeartbeats 4000000
end Go.Proofs.Ytkiankpmkglhcaa.J

/- Walks: the page sets a part; what is alive. -/
namespace Go.Proofs.Ytkiankpmkglhcaa.J
open Go Go.RowKit
set_option linter.unusedVariables false
set_option linter.unusedSimpArgs false
set_option maxRecDepth 10000
set_option maxHeartbeats 4000000
def stB : StT := ⟨true, [98], 0⟩
def vL : V := .mk 4 0 [] [] []
def vR : V := .mk 5 0 [] [] []
def vA : V := .mk 5 0 [] [[98]] [vL]
theorem vL_wf : vL.wf := .mk (by decide) (by decide) (by decide) (by decide) (by decide) (fun _ h => by cases h) (fun _ h => by cases h)
theorem vR_wf : vR.wf := .mk (by decide) (by decide) (by decide) (by decide) (by decide) (fun _ h => by cases h) (fun _ h => by cases h)
theorem vA_wf : vA.wf := .mk (by decide) (by decide) (by decide) (by decide) (by decide) (fun s h => by simp at h; subst h; decide) (fun x h => by simp at h; subst h; exact vL_wf)
theorem stB_wf : [stB].length * 32 ≤ reach ∧ ∀ s ∈ [stB], s.wf := ⟨by decide, fun s h => by simp at h; subst h; exact ⟨by decide, by decide⟩⟩
theorem oset : setAV vR [stB] vL = .tup [.agg (vA.cs true), .c (.int .i64 0)] := setAV_of (by decide)
theorem oget : getAV vA [stB] = .tup [.agg (vL.cs true), .c (.int .i64 0)] := getAV_of (by decide)
theorem num02_ok (n : Int) : Fn Try.prog 23 [.c (.int .i64 n)] (.c (.int .i64 n)) := by
  refine AC.of_J Try.func23 rfl Try.ntmps23 rfl fun w0 A0 => ?_
  refine J.seq ?_
  refine J.region_lit ?_
  refine JL.q rfl rfl rfl (QW.assign .const) ?_
  refine JL.nil ?_
  refine thenQ.n ?_
  refine J.seq ?_
  refine J.region_lit ?_
  refine JL.q rfl rfl rfl (QW.move (.tmp rfl)) ?_
  refine JL.q rfl rfl rfl (QW.assign (.tmp rfl)) ?_
  refine JL.nil ?_
  refine thenQ.n ?_
  refine J.ret ?_
  exact ⟨_, selP [] _, _, RetEv.one rfl (REv.tmp rfl (.refl _)), rfl, sel_perm [] _, ⟨rfl, rfl⟩⟩
theorem alive02_ok : Fn Try.prog 27 [] (.c (.bool true)) := by
  refine AC.of_J Try.func27 rfl Try.ntmps27 rfl fun w0 A0 => ?_
  refine J.seq ?_
  refine J.region_lit ?_
  refine JL.q rfl rfl rfl (QW.assign .const) ?_
  refine JL.nil ?_
  refine thenQ.n ?_
  refine J.seq ?_
  refine J.region_lit ?_
  refine JL.q rfl rfl rfl (QW.build (idx := [0]) pl26 z26 rfl (.cons .const .nil) rfl rfl rfl rfl) ?_
  refine JL.q rfl rfl rfl (QW.build (idx := [0, 1]) pl48 z48 rfl (.cons .const (.cons .const .nil)) rfl rfl rfl rfl) ?_
  refine JL.q rfl rfl rfl (QW.buildSlice (idx := [0]) (xs := [stB.cs]) sl39 el48 z48 rfl (.cons (.tmp rfl) .nil) rfl rfl rfl rfl rfl rfl rfl rfl rfl) ?_
  refine JL.q rfl rfl rfl (QW.build (idx := [0]) pl26 z26 rfl (.cons .const .nil) rfl rfl rfl rfl) ?_
  refine JL.q rfl rfl rfl (QW.call gofn30 (.cons (Ev.le (.tmp rfl) (.aggL (.cons (.refl _) (.cons (.refl _) (.cons (.refl _) (.cons (.nil true false _) (.cons (.nil true false _) .nil))))))) (.cons (.tmp rfl) (.cons (Ev.le (.tmp rfl) (.aggL (.cons (.refl _) (.cons (.refl _) (.cons (.refl _) (.cons (.nil true false _) (.cons (.nil true false _) .nil))))))) .nil))) (oset ▸ set_ok (fr := true) (fr2 := true) (c2 := true) (v := vR) (x := vL) (p := [stB]) Vc.self Vc.self vR_wf vL_wf stB_wf)) ?_
  refine JL.q rfl rfl rfl (QW.move (.tmp rfl)) ?_
  refine JL.q rfl rfl rfl (QW.extract (.tmp rfl) rfl) ?_
  refine JL.q rfl rfl rfl (QW.extract (.tmp rfl) rfl) ?_
  refine JL.alloc z26 rfl rfl fun b1 => ?_
  first | refine JL.store_boxF 0 ty26 (.tmp rfl) rfl (.tmp rfl) (by first | rfl | assumption) (rfl) (rfl) rfl ?_ | refine JL.store_boxF 0 ty26 (.tmp rfl) rfl (.tmp rfl) (by first | rfl | assumption) (rfl) (V.cs_length _ _) rfl ?_ | refine JL.store_boxF 0 ty26 (.tmp rfl) rfl (.tmp rfl) (by first | rfl | assumption) (V.cs_length _ _) (rfl) rfl ?_ | refine JL.store_boxF 0 ty26 (.tmp rfl) rfl (.tmp rfl) (by first | rfl | assumption) (V.cs_length _ _) (V.cs_length _ _) rfl ?_ | refine JL.store_box 0 ty26 (.tmp rfl) rfl (.tmp rfl) (by first | rfl | assumption) rfl rfl rfl rfl ?_ | refine JL.store_box 0 ty26 (.tmp rfl) rfl (.tmp rfl) (by first | rfl | assumption) (V.cs_length _ _) rfl rfl rfl ?_
  refine JL.q rfl rfl rfl (QW.assign (.tmp rfl)) ?_
  refine JL.nil ?_
  refine thenQ.n ?_
  refine J.seq ?_
  refine J.region_lit ?_
  refine JL.q rfl rfl rfl (by first | exact QW.load_box 0 ty26 (.tmp rfl) rfl rfl rfl | exact QW.load_box 0 ty26 (.tmp rfl) rfl (take_at (V.cs_length _ _) rfl) (V.cs_length _ _)) ?_
  refine JL.q rfl rfl rfl (QW.build (idx := [0, 1]) pl48 z48 rfl (.cons .const (.cons .const .nil)) rfl rfl rfl rfl) ?_
  refine JL.q rfl rfl rfl (QW.buildSlice (idx := [0]) (xs := [stB.cs]) sl39 el48 z48 rfl (.cons (.tmp rfl) .nil) rfl rfl rfl rfl rfl rfl rfl rfl rfl) ?_
  refine JL.q rfl rfl rfl (QW.call gofn28 (.cons (.tmp rfl) (.cons (.tmp rfl) .nil)) (oget ▸ get_ok (fr := true) (fr2 := true) (c2 := true) (v := vA) (p := [stB]) Vc.self vA_wf stB_wf)) ?_
  refine JL.q rfl rfl rfl (QW.move (.tmp rfl)) ?_
  refine JL.q rfl rfl rfl (QW.extract (.tmp rfl) rfl) ?_
  refine JL.q rfl rfl rfl (QW.extract (.tmp rfl) rfl) ?_
  refine JL.alloc z26 rfl rfl fun b3 => ?_
  first | refine JL.store_boxF 0 ty26 (.tmp rfl) rfl (.tmp rfl) (by first | rfl | assumption) (rfl) (rfl) rfl ?_ | refine JL.store_boxF 0 ty26 (.tmp rfl) rfl (.tmp rfl) (by first | rfl | assumption) (rfl) (V.cs_length _ _) rfl ?_ | refine JL.store_boxF 0 ty26 (.tmp rfl) rfl (.tmp rfl) (by first | rfl | assumption) (V.cs_length _ _) (rfl) rfl ?_ | refine JL.store_boxF 0 ty26 (.tmp rfl) rfl (.tmp rfl) (by first | rfl | assumption) (V.cs_length _ _) (V.cs_length _ _) rfl ?_ | refine JL.store_box 0 ty26 (.tmp rfl) rfl (.tmp rfl) (by first | rfl | assumption) rfl rfl rfl rfl ?_ | refine JL.store_box 0 ty26 (.tmp rfl) rfl (.tmp rfl) (by first | rfl | assumption) (V.cs_length _ _) rfl rfl rfl ?_
  refine JL.q rfl rfl rfl (QW.assign (.tmp rfl)) ?_
  refine JL.nil ?_
  refine thenQ.n ?_
  refine J.seq ?_
  refine J.region_lit ?_
  refine JL.q rfl rfl rfl (QW.move (.tmp rfl)) ?_
  refine JL.q rfl rfl rfl (QW.call gofn23 (.cons (.tmp rfl) .nil) (num02_ok _)) ?_
  refine JL.q rfl rfl rfl (QW.move (.tmp rfl)) ?_
  refine JL.q rfl rfl rfl (QW.call gofn23 (.cons (.tmp rfl) .nil) (num02_ok _)) ?_
  refine JL.q rfl rfl rfl (QW.add (.tmp rfl) (.tmp rfl) (by first | exact w64n (by first | rfl | omega | (simp; done)) (by omega) | exact w64 (by omega) | rfl)) ?_
  refine JL.q rfl rfl rfl (QW.eql (.tmp rfl) .const) ?_
  refine JL.q rfl rfl rfl (QW.move (.tmp rfl)) ?_
  refine JL.g rfl rfl rfl rfl rfl (fun hg => (QW.field_ptr fo26_0 (.tmp rfl) rfl)) ?_
  refine JL.g rfl rfl rfl rfl rfl (fun hg => (QW.load_box1 0 ty3 (.when rfl hg) rfl rfl)) ?_
  refine JL.g rfl rfl rfl rfl rfl (fun hg => (QW.eql (.when rfl hg) .const)) ?_
  refine JL.q rfl rfl rfl (QW.pick_and (.tmp rfl) (.tmp rfl)) ?_
  refine JL.q rfl rfl rfl (QW.move (.tmp rfl)) ?_
  refine JL.g rfl rfl rfl rfl rfl (fun hg => (QW.field_ptr fo26_3 (.tmp rfl) rfl)) ?_
  refine JL.g rfl rfl rfl rfl rfl (fun hg => (QW.load_box1 1 ty23 (.when rfl hg) rfl rfl)) ?_
  refine JL.g rfl rfl rfl rfl rfl (fun hg => (by first | exact QW.len_slE sl23 (.when rfl hg) (keysAV_length _) | exact QW.len_slE sl23 (.when rfl hg) (V.css_length _ _) | exact QW.len_slE sl23 (.when rfl hg) (StT.css_length _) | exact QW.len_sl sl23 (.when rfl hg) | exact QW.len_nil sl23 (.when rfl hg))) ?_
  refine JL.g rfl rfl rfl rfl rfl (fun hg => (QW.eql (.when rfl hg) .const)) ?_
  refine JL.q rfl rfl rfl (QW.pick_and (.tmp rfl) (.tmp rfl)) ?_
  refine JL.q rfl rfl rfl (QW.assign (.tmp rfl)) ?_
  refine JL.nil ?_
  refine thenQ.n ?_
  refine J.ret ?_
  exact ⟨_, selP [.k, .k] _, _, RetEv.one rfl (REv.tmp rfl (.refl _)), rfl, sel_perm [.k, .k] _, ⟨rfl, rfl⟩⟩
end Go.Proofs.Ytkiankpmkglhcaa.J

/- Walks: ValueTells, ValueParts, ValueOwn. -/
namespace Go.Proofs.Ytkiankpmkglhcaa.J
open Go Go.RowKit
set_option linter.unusedVariables false
set_option linter.unusedSimpArgs false
set_option maxRecDepth 10000
set_option maxHeartbeats 4000000
end Go.Proofs.Ytkiankpmkglhcaa.J

/- Walks: ValueSets. -/
namespace Go.Proofs.Ytkiankpmkglhcaa.J
open Go Go.RowKit
set_option linter.unusedVariables false
set_option linter.unusedSimpArgs false
set_option maxRecDepth 10000
set_option maxHeartbeats 4000000
theorem valueSets_ok {v x : V} {p o : List StT} (hw : v.wf) (hp : p.length * 32 ≤ reach ∧ ∀ s ∈ p, s.wf) (hxw : x.wf) (ho : o.length * 32 ≤ reach ∧ ∀ s ∈ o, s.wf) : Fn Try.prog 5 [.agg (v.cs false), .sl false false eSt (StT.css p), .agg (x.cs false), .sl false false eSt (StT.css o)] (.c (.bool true)) := by
  have hsw := V.setv_wf hw hp.2 hxw
  have hpl : p.length ≤ 4398046511104 := by have := hp.1; unfold reach at this; omega
  have hol : o.length ≤ 4398046511104 := by have := ho.1; unfold reach at this; omega
  refine AC.of_J Try.func5 rfl Try.ntmps5 rfl fun w0 A0 => ?_
  refine J.seq ?_
  refine J.region_lit ?_
  refine JL.box_agg (.tmp rfl) rfl fun b4 => ?_
  refine JL.box_agg (.tmp rfl) rfl fun b6 => ?_
  refine JL.q rfl rfl rfl (QW.assign .const) ?_
  refine JL.nil ?_
  refine thenQ.n ?_
  refine J.seq ?_
  refine J.seq ?_
  refine J.region_lit ?_
  refine JL.q rfl rfl rfl (QW.call gofn27 .nil (alive02_ok)) ?_
  refine JL.q rfl rfl rfl (QW.not (.tmp rfl)) ?_
  refine JL.nil ?_
  refine thenQ.n ?_
  refine J.cond (.tmp rfl) (fun c1 => ?_) (fun c1 => ?_)
  · skip
    exact absurd c1 (by simp)
    --closed
  · skip
    skip
    refine J.skip ?_
    refine thenQ.n ?_
    refine J.seq ?_
    refine J.region_lit ?_
    refine JL.q rfl rfl rfl (by first | exact QW.load_box 1 ty26 (.tmp rfl) rfl rfl rfl | exact QW.load_box 1 ty26 (.tmp rfl) rfl (take_at (V.cs_length _ _) rfl) (V.cs_length _ _)) ?_
    refine JL.q rfl rfl rfl (QW.move (.tmp rfl)) ?_
    refine JL.q rfl rfl rfl (by first | exact QW.load_box 0 ty26 (.tmp rfl) rfl rfl rfl | exact QW.load_box 0 ty26 (.tmp rfl) rfl (take_at (V.cs_length _ _) rfl) (V.cs_length _ _)) ?_
    refine JL.q rfl rfl rfl (QW.call gofn30 (.cons (.tmp rfl) (.cons (.tmp rfl) (.cons (.tmp rfl) .nil))) (set_ok Vc.self Vc.self hw hxw hp)) ?_
    refine JL.q rfl rfl rfl (QW.move (.tmp rfl)) ?_
    refine JL.q rfl rfl rfl (QW.extract (.tmp rfl) rfl) ?_
    refine JL.q rfl rfl rfl (QW.extract (.tmp rfl) rfl) ?_
    refine JL.alloc z26 rfl rfl fun b9 => ?_
    first | refine JL.store_boxF 0 ty26 (.tmp rfl) rfl (.tmp rfl) (by first | rfl | assumption) (rfl) (rfl) rfl ?_ | refine JL.store_boxF 0 ty26 (.tmp rfl) rfl (.tmp rfl) (by first | rfl | assumption) (rfl) (V.cs_length _ _) rfl ?_ | refine JL.store_boxF 0 ty26 (.tmp rfl) rfl (.tmp rfl) (by first | rfl | assumption) (V.cs_length _ _) (rfl) rfl ?_ | refine JL.store_boxF 0 ty26 (.tmp rfl) rfl (.tmp rfl) (by first | rfl | assumption) (V.cs_length _ _) (V.cs_length _ _) rfl ?_ | refine JL.store_box 0 ty26 (.tmp rfl) rfl (.tmp rfl) (by first | rfl | assumption) rfl rfl rfl rfl ?_ | refine JL.store_box 0 ty26 (.tmp rfl) rfl (.tmp rfl) (by first | rfl | assumption) (V.cs_length _ _) rfl rfl rfl ?_
    refine JL.q rfl rfl rfl (QW.assign (.tmp rfl)) ?_
    refine JL.nil ?_
    refine thenQ.n ?_
    refine J.seq ?_
    refine J.seq ?_
    refine J.region_lit ?_
    refine JL.q rfl rfl rfl (QW.move (.tmp rfl)) ?_
    refine JL.q rfl rfl rfl (QW.call gofn23 (.cons (.tmp rfl) .nil) (num02_ok _)) ?_
    refine JL.q rfl rfl rfl (QW.neq (.tmp rfl) .const) ?_
    refine JL.nil ?_
    refine thenQ.n ?_
    refine J.cond (.tmp rfl) (fun c2 => ?_) (fun c2 => ?_)
    · skip
      simp at c2
      have hnil := V.setv_nil c2
      refine J.seq ?_
      refine J.region_lit ?_
      refine JL.q rfl rfl rfl (by first | exact QW.load_box 0 ty26 (.tmp rfl) rfl rfl rfl | exact QW.load_box 0 ty26 (.tmp rfl) rfl (take_at (V.cs_length _ _) rfl) (V.cs_length _ _)) ?_
      refine JL.q rfl rfl rfl (QW.build (idx := []) pl26 z26 rfl .nil rfl rfl rfl rfl) ?_
      refine JL.q rfl rfl rfl (QW.call gofn26 (.cons (.tmp rfl) (.cons (Ev.le (.tmp rfl) (.aggL (.cons (.refl _) (.cons (.refl _) (.cons (.refl _) (.cons (.nil true false _) (.cons (.nil true false _) .nil))))))) .nil)) (sameValue_ok (fr := true) (fr2 := true) Vc.self Vc.self hsw V.wf_nil)) ?_
      refine JL.q rfl rfl rfl (QW.assign (.tmp rfl)) ?_
      refine JL.nil ?_
      refine thenQ.n ?_
      refine J.ret ?_
      refine thenQ.r ?_
      exact ⟨_, selP [.k, .k, .k] _, _, RetEv.one rfl (REv.tmp rfl (.refl _)), rfl, sel_perm [.k, .k, .k] _, ⟨ret_b (by rw [hnil]; simp [V.same_refl]), rfl⟩⟩
    · skip
      simp at c2
      have got := V.sets_got c2
      have kept := @V.sets_kept _ _ _ o c2
      refine J.skip ?_
      refine thenQ.n ?_
      refine J.seq ?_
      refine J.region_lit ?_
      refine JL.q rfl rfl rfl (by first | exact QW.load_box 0 ty26 (.tmp rfl) rfl rfl rfl | exact QW.load_box 0 ty26 (.tmp rfl) rfl (take_at (V.cs_length _ _) rfl) (V.cs_length _ _)) ?_
      refine JL.q rfl rfl rfl (QW.move (.tmp rfl)) ?_
      refine JL.q rfl rfl rfl (QW.call gofn28 (.cons (.tmp rfl) (.cons (.tmp rfl) .nil)) (get_ok Vc.self hsw hp)) ?_
      refine JL.q rfl rfl rfl (QW.move (.tmp rfl)) ?_
      refine JL.q rfl rfl rfl (QW.extract (.tmp rfl) rfl) ?_
      refine JL.q rfl rfl rfl (QW.extract (.tmp rfl) rfl) ?_
      refine JL.alloc z26 rfl rfl fun b11 => ?_
      first | refine JL.store_boxF 0 ty26 (.tmp rfl) rfl (.tmp rfl) (by first | rfl | assumption) (rfl) (rfl) rfl ?_ | refine JL.store_boxF 0 ty26 (.tmp rfl) rfl (.tmp rfl) (by first | rfl | assumption) (rfl) (V.cs_length _ _) rfl ?_ | refine JL.store_boxF 0 ty26 (.tmp rfl) rfl (.tmp rfl) (by first | rfl | assumption) (V.cs_length _ _) (rfl) rfl ?_ | refine JL.store_boxF 0 ty26 (.tmp rfl) rfl (.tmp rfl) (by first | rfl | assumption) (V.cs_length _ _) (V.cs_length _ _) rfl ?_ | refine JL.store_box 0 ty26 (.tmp rfl) rfl (.tmp rfl) (by first | rfl | assumption) rfl rfl rfl rfl ?_ | refine JL.store_box 0 ty26 (.tmp rfl) rfl (.tmp rfl) (by first | rfl | assumption) (V.cs_length _ _) rfl rfl rfl ?_
      refine JL.q rfl rfl rfl (QW.assign (.tmp rfl)) ?_
      refine JL.nil ?_
      refine thenQ.n ?_
      refine J.seq ?_
      refine J.seq ?_
      refine J.region_lit ?_
      refine JL.q rfl rfl rfl (QW.move (.tmp rfl)) ?_
      refine JL.q rfl rfl rfl (QW.call gofn23 (.cons (.tmp rfl) .nil) (num02_ok _)) ?_
      refine JL.q rfl rfl rfl (QW.neq (.tmp rfl) .const) ?_
      refine JL.q rfl rfl rfl (QW.move (.tmp rfl)) ?_
      refine JL.g rfl rfl rfl rfl rfl (fun hg => (by first | exact QW.load_box 0 ty26 (.tmp rfl) rfl rfl rfl | exact QW.load_box 0 ty26 (.tmp rfl) rfl (take_at (V.cs_length _ _) rfl) (V.cs_length _ _))) ?_
      refine JL.g rfl rfl rfl rfl rfl (fun hg => (by first | exact QW.load_box 2 ty26 (.tmp rfl) rfl rfl rfl | exact QW.load_box 2 ty26 (.tmp rfl) rfl (take_at (V.cs_length _ _) rfl) (V.cs_length _ _))) ?_
      refine JL.g rfl rfl rfl rfl rfl (fun hg => (QW.call gofn26 (.cons (.when rfl hg) (.cons (.when rfl hg) .nil)) (sameValue_ok Vc.self Vc.self (V.getv_wf hsw) hxw))) ?_
      refine JL.g rfl rfl rfl rfl rfl (fun hg => (QW.not (.when rfl hg))) ?_
      refine JL.q rfl rfl rfl (QW.pick_or (.tmp rfl) (.tmp rfl)) ?_
      refine JL.nil ?_
      refine thenQ.n ?_
      refine J.cond (.tmp rfl) (fun c3 => ?_) (fun c3 => ?_)
      · skip
        exact absurd c3 (by rw [got]; simp [V.same_refl])
        --closed
      · skip
        skip
        refine J.skip ?_
        refine thenQ.n ?_
        refine J.seq ?_
        refine J.region_lit ?_
        refine JL.q rfl rfl rfl (QW.move (.tmp rfl)) ?_
        refine JL.q rfl rfl rfl (by first | exact QW.len_slE sl39 (.tmp rfl) (keysAV_length _) | exact QW.len_slE sl39 (.tmp rfl) (V.css_length _ _) | exact QW.len_slE sl39 (.tmp rfl) (StT.css_length _) | exact QW.len_sl sl39 (.tmp rfl) | exact QW.len_nil sl39 (.tmp rfl)) ?_
        refine JL.q rfl rfl rfl (QW.move (.tmp rfl)) ?_
        refine JL.q rfl rfl rfl (by first | exact QW.len_slE sl39 (.tmp rfl) (keysAV_length _) | exact QW.len_slE sl39 (.tmp rfl) (V.css_length _ _) | exact QW.len_slE sl39 (.tmp rfl) (StT.css_length _) | exact QW.len_sl sl39 (.tmp rfl) | exact QW.len_nil sl39 (.tmp rfl)) ?_
        refine JL.q rfl rfl rfl (QW.min2 (.tmp rfl) (.tmp rfl)) ?_
        refine JL.q rfl rfl rfl (QW.assign (.tmp rfl)) ?_
        refine JL.nil ?_
        refine thenQ.n ?_
        refine J.seq ?_
        refine J.region_lit ?_
        refine JL.q rfl rfl rfl (QW.assign .const) ?_
        refine JL.nil ?_
        refine thenQ.n ?_
        refine J.seq ?_
        refine J.seq ?_
        refine J.region_lit ?_
        refine JL.q rfl rfl rfl (QW.assign .const) ?_
        refine JL.nil ?_
        refine thenQ.n ?_
        refine J.block ?_
        refine J.loopK (ι := Nat × Bool) [1, 3, 4, 8, 9, 13] (fun ⟨k, sb⟩ => [(14, .c (.bool sb)), (15, .c (.int .i64 (k : Int)))]) (fun _ oo => oo) (fun ⟨k, sb⟩ => k ≤ p.length ∧ k ≤ o.length ∧ (sb && sameP (p.drop k) (o.drop k)) = sameP p o) (fun ⟨k, sb⟩ => p.length - k) ⟨0, true⟩ (⟨Nat.zero_le _, Nat.zero_le _, Bool.true_and _⟩) (Wk.re (.cons rfl (.refl _) (.cons rfl (.refl _) (.cons rfl (.refl _) (.cons rfl (.refl _) (.cons rfl (.refl _) (.cons rfl (.refl _) (.cons rfl (.refl _) (.cons rfl (.refl _) .nil)))))))) (Reown.refl _) (fun _ h => by first | exact h | simp [h])) ?_
        intro ⟨k, sb⟩ ⟨hk, hk2, hs⟩
        refine J.conv (by (try simp only [id_eq, stepsO, List.map_cons, List.map_nil, valO, nthO, curO, mrg, List.reverse_cons, List.reverse_nil, List.nil_append, List.cons_append, List.append_nil, List.getElem?_cons_zero, List.getElem?_cons_succ, Option.map_some, Option.getD_some, List.set_cons_zero, List.set_cons_succ, AV.cellsOf, splice_zero, splice_succ, Nat.zero_add, Nat.reduceAdd]); rfl) ?_
        refine J.seq ?_
        refine J.seq ?_
        refine J.region_lit ?_
        refine JL.q rfl rfl rfl (QW.move (.tmp rfl)) ?_
        refine JL.q rfl rfl rfl (QW.move (.tmp rfl)) ?_
        refine JL.q rfl rfl rfl (QW.lss (.tmp rfl) (.tmp rfl)) ?_
        refine JL.nil ?_
        refine thenQ.n ?_
        refine J.cond (.tmp rfl) (fun c4 => ?_) (fun c4 => ?_)
        · skip
          have hm : k < p.length ∧ k < o.length := by (simp [StT.css_length] at c4; omega)
          obtain ⟨hlt, hlt2⟩ := hm
          refine J.skip ?_
          refine thenQ.n ?_
          refine J.seq ?_
          refine J.block ?_
          refine J.region_tailK 51 mixed (by kernel_rfl) (by kernel_rfl) (by kernel_rfl) rfl ?_
          refine .cons [] rfl rfl rfl (.q rfl (QW.move (.tmp rfl))) ?_
          refine .cons [60] rfl rfl rfl (.q rfl (QW.move (.tmp rfl))) ?_
          refine .cons [61] rfl rfl rfl (.g rfl rfl rfl (fun hg => (QW.move (.tmp rfl)))) ?_
          refine .cons [61] rfl rfl rfl (.g rfl rfl rfl (fun hg => (QW.move (.tmp rfl)))) ?_
          refine .cons [62, 63, 61] rfl rfl rfl (.g rfl rfl rfl (fun hg => (QW.index_sl sl39 ty48 rfl (.when rfl hg) (.when rfl hg) (by first | rfl | omega | (simp; done)) (by first | exact StT.css_getE hlt | exact StT.css_getE hlt2)))) ?_
          refine .cons [64, 61] rfl rfl rfl (.g rfl rfl rfl (fun hg => (QW.field_ref fo48_0 (.when rfl hg) rfl))) ?_
          refine .cons [65, 61] rfl rfl rfl (.g rfl rfl rfl (fun hg => (QW.load_ref1 ty4 (.when rfl hg) rfl))) ?_
          refine .cons [61] rfl rfl rfl (.g rfl rfl rfl (fun hg => (QW.move (.tmp rfl)))) ?_
          refine .cons [61] rfl rfl rfl (.g rfl rfl rfl (fun hg => (QW.move (.tmp rfl)))) ?_
          refine .cons [67, 68, 61] rfl rfl rfl (.g rfl rfl rfl (fun hg => (QW.index_sl sl39 ty48 rfl (.when rfl hg) (.when rfl hg) (by first | rfl | omega | (simp; done)) (by first | exact StT.css_getE hlt | exact StT.css_getE hlt2)))) ?_
          refine .cons [69, 61] rfl rfl rfl (.g rfl rfl rfl (fun hg => (QW.field_ref fo48_0 (.when rfl hg) rfl))) ?_
          refine .cons [70, 61] rfl rfl rfl (.g rfl rfl rfl (fun hg => (QW.load_ref1 ty4 (.when rfl hg) rfl))) ?_
          refine .cons [66, 71, 61] rfl rfl rfl (.g rfl rfl rfl (fun hg => (QW.eql_b bo4 (.when rfl hg) (.when rfl hg)))) ?_
          refine .cons [61, 72] rfl rfl rfl (.q rfl (QW.pick_and (.tmp rfl) (.tmp rfl))) ?_
          refine .cons [73] rfl rfl rfl (.q rfl (QW.move (.tmp rfl))) ?_
          refine .cons [74] rfl rfl rfl (.g rfl rfl rfl (fun hg => (QW.move (.tmp rfl)))) ?_
          refine .cons [74] rfl rfl rfl (.g rfl rfl rfl (fun hg => (QW.move (.tmp rfl)))) ?_
          refine .cons [75, 76, 74] rfl rfl rfl (.g rfl rfl rfl (fun hg => (QW.index_sl sl39 ty48 rfl (.when rfl hg) (.when rfl hg) (by first | rfl | omega | (simp; done)) (by first | exact StT.css_getE hlt | exact StT.css_getE hlt2)))) ?_
          refine .cons [77, 74] rfl rfl rfl (.g rfl rfl rfl (fun hg => (QW.field_ref fo48_0 (.when rfl hg) rfl))) ?_
          refine .cons [78, 74] rfl rfl rfl (.g rfl rfl rfl (fun hg => (QW.load_ref1 ty4 (.when rfl hg) rfl))) ?_
          refine .cons [79, 74] rfl rfl rfl (.g rfl rfl rfl (fun hg => (QW.move (.when rfl hg)))) ?_
          refine .cons [80] rfl rfl rfl (.gg rfl rfl rfl (fun hg => (QW.move (.tmp rfl)))) ?_
          refine .cons [80] rfl rfl rfl (.gg rfl rfl rfl (fun hg => (QW.move (.tmp rfl)))) ?_
          refine .cons [81, 82, 80] rfl rfl rfl (.gg rfl rfl rfl (fun hg => (QW.index_sl sl39 ty48 rfl (.when rfl hg) (.when rfl hg) (by first | rfl | omega | (simp; done)) (by first | exact StT.css_getE hlt | exact StT.css_getE hlt2)))) ?_
          refine .cons [83, 80] rfl rfl rfl (.gg rfl rfl rfl (fun hg => (QW.field_ref fo48_1 (.when rfl hg) rfl))) ?_
          refine .cons [84, 80] rfl rfl rfl (.gg rfl rfl rfl (fun hg => (QW.load_ref1 ty9 (.when rfl hg) rfl))) ?_
          refine .cons [80] rfl rfl rfl (.gg rfl rfl rfl (fun hg => (QW.move (.tmp rfl)))) ?_
          refine .cons [80] rfl rfl rfl (.gg rfl rfl rfl (fun hg => (QW.move (.tmp rfl)))) ?_
          refine .cons [86, 87, 80] rfl rfl rfl (.gg rfl rfl rfl (fun hg => (QW.index_sl sl39 ty48 rfl (.when rfl hg) (.when rfl hg) (by first | rfl | omega | (simp; done)) (by first | exact StT.css_getE hlt | exact StT.css_getE hlt2)))) ?_
          refine .cons [88, 80] rfl rfl rfl (.gg rfl rfl rfl (fun hg => (QW.field_ref fo48_1 (.when rfl hg) rfl))) ?_
          refine .cons [89, 80] rfl rfl rfl (.gg rfl rfl rfl (fun hg => (QW.load_ref1 ty9 (.when rfl hg) rfl))) ?_
          refine .cons [85, 90, 80] rfl rfl rfl (.gg rfl rfl rfl (fun hg => (QW.eql_s (.when rfl hg) (.when rfl hg)))) ?_
          refine .cons [80, 91, 74] rfl rfl rfl (.g rfl rfl rfl (fun hg => (by first | exact QW.pick_and (.when rfl hg) (.tmp rfl) | exact QW.pick_and2 hg (.when rfl hg) (.tmp rfl)))) ?_
          refine .cons [92, 74] rfl rfl rfl (.g rfl rfl rfl (fun hg => (QW.move (.when rfl hg)))) ?_
          refine .cons [93] rfl rfl rfl (.gg rfl rfl rfl (fun hg => (QW.move (.tmp rfl)))) ?_
          refine .cons [93] rfl rfl rfl (.gg rfl rfl rfl (fun hg => (QW.move (.tmp rfl)))) ?_
          refine .cons [94, 95, 93] rfl rfl rfl (.gg rfl rfl rfl (fun hg => (QW.index_sl sl39 ty48 rfl (.when rfl hg) (.when rfl hg) (by first | rfl | omega | (simp; done)) (by first | exact StT.css_getE hlt | exact StT.css_getE hlt2)))) ?_
          refine .cons [96, 93] rfl rfl rfl (.gg rfl rfl rfl (fun hg => (QW.field_ref fo48_0 (.when rfl hg) rfl))) ?_
          refine .cons [97, 93] rfl rfl rfl (.gg rfl rfl rfl (fun hg => (QW.load_ref1 ty4 (.when rfl hg) rfl))) ?_
          refine .cons [98, 93] rfl rfl rfl (.gg rfl rfl rfl (fun hg => (QW.not (.when rfl hg)))) ?_
          refine .cons [99, 93] rfl rfl rfl (.gg rfl rfl rfl (fun hg => (QW.move (.when rfl hg)))) ?_
          refine .cons [100] rfl rfl rfl (.gg rfl rfl rfl (fun hg => (QW.move (.tmp rfl)))) ?_
          refine .cons [100] rfl rfl rfl (.gg rfl rfl rfl (fun hg => (QW.move (.tmp rfl)))) ?_
          refine .cons [101, 102, 100] rfl rfl rfl (.gg rfl rfl rfl (fun hg => (QW.index_sl sl39 ty48 rfl (.when rfl hg) (.when rfl hg) (by first | rfl | omega | (simp; done)) (by first | exact StT.css_getE hlt | exact StT.css_getE hlt2)))) ?_
          refine .cons [103, 100] rfl rfl rfl (.gg rfl rfl rfl (fun hg => (QW.field_ref fo48_2 (.when rfl hg) rfl))) ?_
          refine .cons [104, 100] rfl rfl rfl (.gg rfl rfl rfl (fun hg => (QW.load_ref1 ty3 (.when rfl hg) rfl))) ?_
          refine .cons [100] rfl rfl rfl (.gg rfl rfl rfl (fun hg => (QW.move (.tmp rfl)))) ?_
          refine .cons [100] rfl rfl rfl (.gg rfl rfl rfl (fun hg => (QW.move (.tmp rfl)))) ?_
          refine .cons [106, 107, 100] rfl rfl rfl (.gg rfl rfl rfl (fun hg => (QW.index_sl sl39 ty48 rfl (.when rfl hg) (.when rfl hg) (by first | rfl | omega | (simp; done)) (by first | exact StT.css_getE hlt | exact StT.css_getE hlt2)))) ?_
          refine .cons [108, 100] rfl rfl rfl (.gg rfl rfl rfl (fun hg => (QW.field_ref fo48_2 (.when rfl hg) rfl))) ?_
          refine .cons [109, 100] rfl rfl rfl (.gg rfl rfl rfl (fun hg => (QW.load_ref1 ty3 (.when rfl hg) rfl))) ?_
          refine .nil ?_
          refine JL.gg rfl rfl rfl rfl rfl (fun hg => (QW.eql (.when rfl hg) (.when rfl hg))) ?_
          refine JL.gg rfl rfl rfl rfl rfl (fun hg => (by first | exact QW.pick_and (.when rfl hg) (.tmp rfl) | exact QW.pick_and2 hg (.when rfl hg) (.tmp rfl))) ?_
          refine JL.g rfl rfl rfl rfl rfl (fun hg => (by first | exact QW.pick_or (.when rfl hg) (.tmp rfl) | exact QW.pick_or2 hg (.when rfl hg) (.tmp rfl))) ?_
          refine JL.q rfl rfl rfl (QW.pick_and (.tmp rfl) (.tmp rfl)) ?_
          refine JL.q rfl rfl rfl (QW.assign (.tmp rfl)) ?_
          refine JL.nil ?_
          refine blkQ.n ?_
          refine thenQ.n ?_
          refine J.region_lit ?_
          refine JL.q rfl rfl rfl (QW.move (.tmp rfl)) ?_
          refine JL.q rfl rfl rfl (QW.add (.tmp rfl) .const (by first | exact w64n (by first | rfl | omega | (simp; done)) (by omega) | exact w64 (by omega) | rfl)) ?_
          refine JL.q rfl rfl rfl (QW.assign (.tmp rfl)) ?_
          refine JL.nil ?_
          refine thenQ.n ?_
          exact ⟨⟨k + 1, sb && (p[k]'hlt).isKey == (o[k]'hlt2).isKey && ((p[k]'hlt).isKey && (p[k]'hlt).key == (o[k]'hlt2).key || !(p[k]'hlt).isKey && (p[k]'hlt).index == (o[k]'hlt2).index)⟩, ⟨hlt, hlt2, by rw [← hs, sameP_drop hlt hlt2]; simp only [sameSt, Bool.and_assoc]⟩, by show p.length - (k + 1) < p.length - k; omega, Wk.re (.cons rfl (.refl _) (.cons rfl (.refl _) (.cons rfl (.refl _) (.cons rfl (.refl _) (.cons rfl (.refl _) (.cons rfl (.refl _) (.cons rfl (.refl _) (.cons rfl (.refl _) .nil)))))))) (Reown.refl _) (fun _ h => by first | exact h | simp [h])⟩
        · skip
          have hge : p.length ≤ k ∨ o.length ≤ k := by (simp [StT.css_length] at c4; omega)
          rw [sameP_end hge, Bool.and_true] at hs
          refine J.exit ?_
          refine thenQ.x ?_
          refine thenQ.x ?_
          refine blkQ.hit ?_
          refine thenQ.n ?_
          refine J.seq ?_
          refine J.region_lit ?_
          refine JL.q rfl rfl rfl (by first | exact QW.load_box 3 ty26 (.tmp rfl) rfl rfl rfl | exact QW.load_box 3 ty26 (.tmp rfl) rfl (take_at (V.cs_length _ _) rfl) (V.cs_length _ _)) ?_
          refine JL.q rfl rfl rfl (QW.move (.tmp rfl)) ?_
          refine JL.q rfl rfl rfl (QW.call gofn28 (.cons (.tmp rfl) (.cons (.tmp rfl) .nil)) (get_ok Vc.self hw ho)) ?_
          refine JL.q rfl rfl rfl (QW.move (.tmp rfl)) ?_
          refine JL.q rfl rfl rfl (QW.extract (.tmp rfl) rfl) ?_
          refine JL.q rfl rfl rfl (QW.extract (.tmp rfl) rfl) ?_
          refine JL.alloc z26 rfl rfl fun b16 => ?_
          first | refine JL.store_boxF 0 ty26 (.tmp rfl) rfl (.tmp rfl) (by first | rfl | assumption) (rfl) (rfl) rfl ?_ | refine JL.store_boxF 0 ty26 (.tmp rfl) rfl (.tmp rfl) (by first | rfl | assumption) (rfl) (V.cs_length _ _) rfl ?_ | refine JL.store_boxF 0 ty26 (.tmp rfl) rfl (.tmp rfl) (by first | rfl | assumption) (V.cs_length _ _) (rfl) rfl ?_ | refine JL.store_boxF 0 ty26 (.tmp rfl) rfl (.tmp rfl) (by first | rfl | assumption) (V.cs_length _ _) (V.cs_length _ _) rfl ?_ | refine JL.store_box 0 ty26 (.tmp rfl) rfl (.tmp rfl) (by first | rfl | assumption) rfl rfl rfl rfl ?_ | refine JL.store_box 0 ty26 (.tmp rfl) rfl (.tmp rfl) (by first | rfl | assumption) (V.cs_length _ _) rfl rfl rfl ?_
          refine JL.q rfl rfl rfl (QW.assign (.tmp rfl)) ?_
          refine JL.nil ?_
          refine thenQ.n ?_
          refine J.seq ?_
          refine J.seq ?_
          refine J.region_lit ?_
          refine JL.q rfl rfl rfl (QW.move (.tmp rfl)) ?_
          refine JL.q rfl rfl rfl (QW.move (.tmp rfl)) ?_
          refine JL.g rfl rfl rfl rfl rfl (fun hg => (QW.move (.tmp rfl))) ?_
          refine JL.g rfl rfl rfl rfl rfl (fun hg => (QW.call gofn23 (.cons (.when rfl hg) .nil) (num02_ok _))) ?_
          refine JL.g rfl rfl rfl rfl rfl (fun hg => (QW.neq (.when rfl hg) .const)) ?_
          refine JL.q rfl rfl rfl (QW.pick_or (.tmp rfl) (.tmp rfl)) ?_
          refine JL.nil ?_
          refine thenQ.n ?_
          refine J.cond (.tmp rfl) (fun c5 => ?_) (fun c5 => ?_)
          · skip
            skip
            refine J.seq ?_
            refine J.region_lit ?_
            refine JL.q rfl rfl rfl (QW.assign .const) ?_
            refine JL.nil ?_
            refine thenQ.n ?_
            refine J.ret ?_
            refine thenQ.r ?_
            exact ⟨_, selP [.k, .k, .k, .k, .k] _, _, RetEv.one rfl (REv.tmp rfl (.refl _)), rfl, sel_perm [.k, .k, .k, .k, .k] _, ⟨rfl, rfl⟩⟩
          · skip
            simp at c5
            refine J.skip ?_
            refine thenQ.n ?_
            refine J.seq ?_
            refine J.region_lit ?_
            refine JL.q rfl rfl rfl (by first | exact QW.load_box 2 ty26 (.tmp rfl) rfl rfl rfl | exact QW.load_box 2 ty26 (.tmp rfl) rfl (take_at (V.cs_length _ _) rfl) (V.cs_length _ _)) ?_
            refine JL.q rfl rfl rfl (QW.move (.tmp rfl)) ?_
            refine JL.q rfl rfl rfl (QW.call gofn28 (.cons (.tmp rfl) (.cons (.tmp rfl) .nil)) (get_ok Vc.self hsw ho)) ?_
            refine JL.q rfl rfl rfl (QW.move (.tmp rfl)) ?_
            refine JL.q rfl rfl rfl (QW.extract (.tmp rfl) rfl) ?_
            refine JL.q rfl rfl rfl (QW.extract (.tmp rfl) rfl) ?_
            refine JL.alloc z26 rfl rfl fun b18 => ?_
            first | refine JL.store_boxF 0 ty26 (.tmp rfl) rfl (.tmp rfl) (by first | rfl | assumption) (rfl) (rfl) rfl ?_ | refine JL.store_boxF 0 ty26 (.tmp rfl) rfl (.tmp rfl) (by first | rfl | assumption) (rfl) (V.cs_length _ _) rfl ?_ | refine JL.store_boxF 0 ty26 (.tmp rfl) rfl (.tmp rfl) (by first | rfl | assumption) (V.cs_length _ _) (rfl) rfl ?_ | refine JL.store_boxF 0 ty26 (.tmp rfl) rfl (.tmp rfl) (by first | rfl | assumption) (V.cs_length _ _) (V.cs_length _ _) rfl ?_ | refine JL.store_box 0 ty26 (.tmp rfl) rfl (.tmp rfl) (by first | rfl | assumption) rfl rfl rfl rfl ?_ | refine JL.store_box 0 ty26 (.tmp rfl) rfl (.tmp rfl) (by first | rfl | assumption) (V.cs_length _ _) rfl rfl rfl ?_
            refine JL.q rfl rfl rfl (QW.assign (.tmp rfl)) ?_
            refine JL.nil ?_
            refine thenQ.n ?_
            refine J.seq ?_
            refine J.region_lit ?_
            refine JL.q rfl rfl rfl (QW.move (.tmp rfl)) ?_
            refine JL.q rfl rfl rfl (QW.call gofn23 (.cons (.tmp rfl) .nil) (num02_ok _)) ?_
            refine JL.q rfl rfl rfl (QW.eql (.tmp rfl) .const) ?_
            refine JL.q rfl rfl rfl (QW.move (.tmp rfl)) ?_
            refine JL.g rfl rfl rfl rfl rfl (fun hg => (by first | exact QW.load_box 1 ty26 (.tmp rfl) rfl rfl rfl | exact QW.load_box 1 ty26 (.tmp rfl) rfl (take_at (V.cs_length _ _) rfl) (V.cs_length _ _))) ?_
            refine JL.g rfl rfl rfl rfl rfl (fun hg => (by first | exact QW.load_box 0 ty26 (.tmp rfl) rfl rfl rfl | exact QW.load_box 0 ty26 (.tmp rfl) rfl (take_at (V.cs_length _ _) rfl) (V.cs_length _ _))) ?_
            refine JL.g rfl rfl rfl rfl rfl (fun hg => (QW.call gofn26 (.cons (.when rfl hg) (.cons (.when rfl hg) .nil)) (sameValue_ok Vc.self Vc.self (V.getv_wf hw) (V.getv_wf hsw)))) ?_
            refine JL.q rfl rfl rfl (QW.pick_and (.tmp rfl) (.tmp rfl)) ?_
            refine JL.q rfl rfl rfl (QW.assign (.tmp rfl)) ?_
            refine JL.nil ?_
            refine thenQ.n ?_
            refine J.ret ?_
            exact ⟨_, selP [.k, .k, .k, .k, .k, .k] _, _, RetEv.one rfl (REv.tmp rfl (.refl _)), rfl, sel_perm [.k, .k, .k, .k, .k, .k] _, ⟨ret_b (by have := kept (by rw [← hs]; exact c5.1) c5.2; rw [this]; simp [V.same_refl, c5.2]), rfl⟩⟩
end Go.Proofs.Ytkiankpmkglhcaa.J

